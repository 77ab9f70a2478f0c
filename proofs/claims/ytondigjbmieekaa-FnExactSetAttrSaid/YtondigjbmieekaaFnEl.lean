/- Edits: the law of SetAttr. -/
import Derived.Test.YtondigjbmieekaaFnEe
import Derived.Test.YtondigjbmieekaaFnMm
set_option linter.all false
set_option linter.unusedSimpArgs false
set_option linter.unusedVariables false
set_option linter.unusedSectionVars false
set_option maxRecDepth 20000
set_option maxHeartbeats 1000000
namespace Go.Ab
open Go Go.Proofs.Try
theorem seR_sz (l : List Node) (p : List Int) (a : Attr) : szL szNd (seR l p a) ≤ 60000 := by
  unfold seR
  by_cases h : seC l p a = 0
  · rw [decide_eq_true h, cond_true]
    unfold seC at h
    by_cases hE : askE l p = 0
    · rw [decide_eq_true hE] at h
      have h : stC l p a = 0 := h
      unfold stC at h
      cases hA : attrOK a with
      | false => rw [hA] at h; cases h
      | true =>
        rw [hA] at h
        have h : (bif !decide (elC l p = 0) then elC l p else doneC (setT l p a)) = 0 := h
        by_cases hL : elC l p = 0
        · have hs : (atP l p).isNone = false := by
            unfold elC at hL
            cases hs : (atP l p).isNone with
            | true => rw [hs] at hL; cases hL
            | false => rfl
          exact setT_sz (askT_0 (askE_0 hE).2).2 hA hs
        · rw [decide_eq_false hL] at h; exact absurd h hL
    · rw [decide_eq_false hE] at h; exact absurd h hE
  · rw [decide_eq_false h, cond_false]; simp [szL, sumL]
noncomputable def sp_lawSetAttr : Spec := ⟨[.sl .node, .sl .int, .st .attr], [.rd, .rd, .rd], true, fun
  | [.dat ⟨.node, l⟩, .dat ⟨.int, p⟩, .agg [.str m, .str v]] => some (some (fitL fitNd l ∧ p.length ≤ 9223372036854775807 ∧ fitAt ⟨m, v⟩), .bool true, [])
  | _ => none⟩
@[push_cast] theorem sp_lawSetAttr_ps : sp_lawSetAttr.ps = [.sl .node, .sl .int, .st .attr] := rfl
@[push_cast] theorem sp_lawSetAttr_md : sp_lawSetAttr.modes = [.rd, .rd, .rd] := rfl
@[push_cast] theorem sp_lawSetAttr_pure : sp_lawSetAttr.pure = true := rfl
@[push_cast] theorem sp_lawSetAttr_run (l : List Node) (p : List Int) (m v : Str) : sp_lawSetAttr.run [.dat ⟨.node, l⟩, .dat ⟨.int, p⟩, .agg [.str m, .str v]] = some (some (fitL fitNd l ∧ p.length ≤ 9223372036854775807 ∧ fitAt ⟨m, v⟩), .bool true, []) := rfl
noncomputable def e_lawSetAttr : Env := mk [(17, sp_szNodeS), (26, sp_szAttr), (19, sp_toNodeS), (28, sp_toIntS), (29, sp_toAttr), (22, sp_eqNodeS), (31, sp_eqIntS), (23, sp_mkNodes), (32, sp_mkInts), (33, sp_hdNodes), (30, sp_SetA), (27, sp_SetA)] [(10, [1, 3, 6], [[], [], [0], [], [0, 1]]), (33, [1, 3, 6], [[], [], [0], [], [0, 1]])] [] [] none
@[push_cast] theorem e_lawSetAttr_in : e_lawSetAttr.inl = inlF [] := rfl
@[push_cast] theorem e_lawSetAttr_fn : e_lawSetAttr.fnd = fndF none := rfl
@[push_cast] theorem e_lawSetAttr_gh : e_lawSetAttr.gh = ghOf [] := rfl
@[push_cast] theorem e_lawSetAttr_dr : e_lawSetAttr.dr = drOf [(10, [1, 3, 6], [[], [], [0], [], [0, 1]]), (33, [1, 3, 6], [[], [], [0], [], [0, 1]])] := rfl
@[push_cast] theorem e_lawSetAttr_td : e_lawSetAttr.td = td := rfl
@[push_cast] theorem e_lawSetAttr_eqt : e_lawSetAttr.eqt = eqt := rfl
@[push_cast] theorem e_lawSetAttr_cal : e_lawSetAttr.cal = calOf [(17, sp_szNodeS), (26, sp_szAttr), (19, sp_toNodeS), (28, sp_toIntS), (29, sp_toAttr), (22, sp_eqNodeS), (31, sp_eqIntS), (23, sp_mkNodes), (32, sp_mkInts), (33, sp_hdNodes), (30, sp_SetA), (27, sp_SetA)] := rfl
theorem c_lawSetAttr : CRow P0 ety0 5 sp_lawSetAttr := CRow.of (E := e_lawSetAttr) (mkOk (.cons c_szNodeS (.cons c_szAttr (.cons c_toNodeS (.cons c_toIntS (.cons c_toAttr (.cons c_eqNodeS (.cons c_eqIntS (.cons c_mkNodes (.cons c_mkInts (.cons c_hdNodes (.cons c_SetAttr (.cons c_SetAttr2 (.nil)))))))))))))) func5 rfl rfl rfl (by
  intro args p r outs h hq
  simp only [sp_lawSetAttr] at h; split at h <;> cases h
  rename_i l p m v
  obtain ⟨hl, hp, hf⟩ := hq _ rfl
  refine Body.intro (rs := [.tmp 6]) rfl rfl rfl ?_
  apply vc_run 1000 (stop := false) rfl; simp only [push_cast, reduceIte, Nat.reduceEqDiff, Nat.reduceAdd, Nat.reduceSub, Nat.reduceLT, Int.reduceNeg, Int.reduceLE, Int.reduceLT, Int.reduceToNat, Nat.reduceLeDiff, UInt8.reduceOfNat, UInt8.reduceOfNatLT, and_self, Nat.reduceMul, decide_true, decide_false, Bool.not_true, Bool.not_false, implies_true]
  intro hpl
  have hpl : p.length ≤ 1048576 := by have := of_decide_eq_false hpl; omega
  refine ⟨hl, fun h => ?_⟩
  obtain ⟨a1, a2, a3, a4⟩ := szR_le (of_decide_eq_false h) (by omega)
  refine ⟨⟨a1, a2, hf⟩, fun h2 => ?_⟩
  obtain ⟨b1, b2, b3, b4⟩ := szR_le (of_decide_eq_false h2) a1
  have e1 : szAt ⟨m, v⟩ = m.length + v.length := rfl
  have k1 : szL szNd l ≤ 1048576 := by omega
  have k2 : m.length + v.length ≤ 1048576 := by omega
  have k3 := seR_sz l p ⟨m, v⟩
  have k4 := sumNdz l
  have k5 := sumNdz (seR l p ⟨m, v⟩)
  have k6 := sumI_len p
  simp only [eqB_self, sz0, Bool.not_true, cond_true, cond_false, decide_true, forall_const, reduceCtorEq, false_implies, implies_true, true_and, and_true]
  clear hq h h2 a1 a2 a3 a4 b1 b2 b3 b4
  generalize seR l p ⟨m, v⟩ = R at *
  have n1 : decide ((1 : Int) + (sumL cNd l : Nat) + (sumL oneI p : Nat) < 0) = false := decide_eq_false (by omega)
  have n2 : decide ((1 : Int) + (sumL cNd R : Nat) < 0) = false := decide_eq_false (by omega)
  have n3 := mkdNds R 1
  simp only [sumNds, n1, n2, n3, cond_false, decide_true, Bool.not_true, reduceCtorEq, false_implies, implies_true, forall_const, and_true, true_and]
  have n4 : szL szNd R ≤ 1048576 := by omega
  have n5 : (1 : Int) + (sumL cNd l : Nat) ≤ 1073741824 := by omega
  have n6 : (0 : Int) ≤ 1 + (sumL cNd l : Nat) ∧ (1 : Int) + (sumL cNd l : Nat) + (sumL oneI p : Nat) ≤ 1073741824 := by omega
  have n7 : (1 : Int) + (sumL cNd R : Nat) ≤ 1073741824 := by omega
  simp only [k1, k2, hpl, n4, n5, n6, n7, and_self])
end Go.Ab
