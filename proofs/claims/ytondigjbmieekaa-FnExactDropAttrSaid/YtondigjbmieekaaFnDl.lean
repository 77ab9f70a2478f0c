/- Edits: the law of DropAttr. -/
import Derived.Test.YtondigjbmieekaaFnDp
import Derived.Test.YtondigjbmieekaaFnMm
set_option linter.all false
set_option linter.unusedSimpArgs false
set_option linter.unusedVariables false
set_option linter.unusedSectionVars false
set_option maxRecDepth 20000
set_option maxHeartbeats 1000000
namespace Go.Ab
open Go Go.Proofs.Try
theorem dpR_sz {l : List Node} {p : List Int} {n : Str} (hl : szL szNd l ≤ 1048576) : szL szNd (dpR l p n) ≤ 1048576 := by
  unfold dpR
  by_cases h : dpC l p n = 0
  · rw [decide_eq_true h, cond_true]
    unfold dpC at h
    by_cases h1 : 65536 < n.length
    · rw [decide_eq_true h1] at h; cases h
    rw [decide_eq_false h1, cond_false] at h
    by_cases hE : askE l p = 0
    · rw [decide_eq_true hE] at h
      have h : (bif !decide (elC l p = 0) then elC l p else bif ((atN l p).attrs.findIdx? (isNm n)).isNone then 18 else 0) = 0 := h
      by_cases hL : elC l p = 0
      · have := treeOK_sz (dropT_ok (n := n) (askT_0 (askE_0 hE).2).2 (elC_0 hL).1)
        omega
      · rw [decide_eq_false hL] at h; exact absurd h hL
    · rw [decide_eq_false hE] at h; exact absurd h hE
  · rw [decide_eq_false h, cond_false]
    cases decide (dpC l p n = 18)
    · simp [szL, sumL]
    · exact hl
noncomputable def sp_lawDropAttr : Spec := ⟨[.sl .node, .sl .int, .sc], [.rd, .rd, .rd], true, fun
  | [.dat ⟨.node, l⟩, .dat ⟨.int, p⟩, .str n] => some (some (fitL fitNd l ∧ p.length ≤ 9223372036854775807 ∧ n.length ≤ 9223372036854775807), .bool true, [])
  | _ => none⟩
@[push_cast] theorem sp_lawDropAttr_ps : sp_lawDropAttr.ps = [.sl .node, .sl .int, .sc] := rfl
@[push_cast] theorem sp_lawDropAttr_md : sp_lawDropAttr.modes = [.rd, .rd, .rd] := rfl
@[push_cast] theorem sp_lawDropAttr_pure : sp_lawDropAttr.pure = true := rfl
@[push_cast] theorem sp_lawDropAttr_run (l : List Node) (p : List Int) (n : Str) : sp_lawDropAttr.run [.dat ⟨.node, l⟩, .dat ⟨.int, p⟩, .str n] = some (some (fitL fitNd l ∧ p.length ≤ 9223372036854775807 ∧ n.length ≤ 9223372036854775807), .bool true, []) := rfl
noncomputable def e_lawDropAttr : Env := mk [(17, sp_szNodeS), (19, sp_toNodeS), (28, sp_toIntS), (22, sp_eqNodeS), (31, sp_eqIntS), (23, sp_mkNodes), (32, sp_mkInts), (33, sp_hdNodes), (35, sp_dpA), (34, sp_dpA)] [] [] [] none
@[push_cast] theorem e_lawDropAttr_in : e_lawDropAttr.inl = inlF [] := rfl
@[push_cast] theorem e_lawDropAttr_fn : e_lawDropAttr.fnd = fndF none := rfl
@[push_cast] theorem e_lawDropAttr_gh : e_lawDropAttr.gh = ghOf [] := rfl
@[push_cast] theorem e_lawDropAttr_dr : e_lawDropAttr.dr = drOf [] := rfl
@[push_cast] theorem e_lawDropAttr_td : e_lawDropAttr.td = td := rfl
@[push_cast] theorem e_lawDropAttr_eqt : e_lawDropAttr.eqt = eqt := rfl
@[push_cast] theorem e_lawDropAttr_cal : e_lawDropAttr.cal = calOf [(17, sp_szNodeS), (19, sp_toNodeS), (28, sp_toIntS), (22, sp_eqNodeS), (31, sp_eqIntS), (23, sp_mkNodes), (32, sp_mkInts), (33, sp_hdNodes), (35, sp_dpA), (34, sp_dpA)] := rfl
theorem c_lawDropAttr : CRow P0 ety0 6 sp_lawDropAttr := CRow.of (E := e_lawDropAttr) (mkOk (.cons c_szNodeS (.cons c_toNodeS (.cons c_toIntS (.cons c_eqNodeS (.cons c_eqIntS (.cons c_mkNodes (.cons c_mkInts (.cons c_hdNodes (.cons c_DropAttr (.cons c_DropAttr2 (.nil)))))))))))) func6 rfl rfl rfl (by
  intro args p r outs h hq
  simp only [sp_lawDropAttr] at h; split at h <;> cases h
  rename_i l p n
  obtain ⟨hl, hp, hf⟩ := hq _ rfl
  refine Body.intro (rs := [.tmp 6]) rfl rfl rfl ?_
  apply vc_run 1000 (stop := false) rfl; simp only [push_cast, reduceIte, Nat.reduceEqDiff, Nat.reduceAdd, Nat.reduceSub, Nat.reduceLT, Int.reduceNeg, Int.reduceLE, Int.reduceLT, Int.reduceToNat, Nat.reduceLeDiff, UInt8.reduceOfNat, UInt8.reduceOfNatLT, and_self, Nat.reduceMul, decide_true, decide_false, Bool.not_true, Bool.not_false, implies_true]
  intro hpl hnl
  have hpl : p.length ≤ 1048576 := by have := of_decide_eq_false hpl; omega
  have hnl : n.length ≤ 1048576 := by have := of_decide_eq_false hnl; omega
  refine ⟨hl, fun h => ?_⟩
  obtain ⟨a1, a2, a3, a4⟩ := szR_le (of_decide_eq_false h) (by omega)
  have k1 : szL szNd l ≤ 1048576 := by omega
  have k3 := dpR_sz (p := p) (n := n) k1
  have k4 := sumNdz l
  have k5 := sumNdz (dpR l p n)
  have k6 := sumI_len p
  simp only [eqB_self, sz0, Bool.not_true, cond_true, cond_false, decide_true, forall_const, reduceCtorEq, false_implies, implies_true, true_and, and_true]
  clear hq h a1 a2 a3 a4
  generalize dpR l p n = R at *
  have n1 : decide ((1 : Int) + (sumL cNd l : Nat) + (sumL oneI p : Nat) < 0) = false := decide_eq_false (by omega)
  have n2 : decide ((1 : Int) + (sumL cNd R : Nat) < 0) = false := decide_eq_false (by omega)
  have n3 := mkdNds R 1
  simp only [sumNds, n1, n2, n3, cond_false, decide_true, Bool.not_true, reduceCtorEq, false_implies, implies_true, forall_const, and_true, true_and]
  have n5 : (1 : Int) + (sumL cNd l : Nat) ≤ 1073741824 := by omega
  have n6 : (0 : Int) ≤ 1 + (sumL cNd l : Nat) ∧ (1 : Int) + (sumL cNd l : Nat) + (sumL oneI p : Nat) ≤ 1073741824 := by omega
  have n7 : (1 : Int) + (sumL cNd R : Nat) ≤ 1073741824 := by omega
  simp only [k1, k3, hpl, hnl, n5, n6, n7, and_self])
end Go.Ab
