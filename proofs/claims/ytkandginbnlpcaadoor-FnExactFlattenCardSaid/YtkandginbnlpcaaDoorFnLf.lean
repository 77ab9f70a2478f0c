/- The lines of a tree, and that they are of their own. -/
import Derived.Test.YtkandginbnlpcaaDoorFnI
import Derived.Test.YtkandginbnlpcaaDoorFnAk
import Derived.Test.YtkandginbnlpcaaDoorFnMn
set_option linter.all false
set_option linter.unusedSimpArgs false
set_option linter.unusedVariables false
set_option linter.unusedSectionVars false
set_option maxRecDepth 20000
set_option maxHeartbeats 1000000
namespace Go.Ab
open Go Go.Proofs.Tryd
theorem treeOK_sp2 {l : List Node} (h : treeOK l = true) : spNds l := goods_sp l 1 (treeOK_good h).1
def flatR (l : List Node) : List Str := bif decide (askT l = 0) then flatT l else []
noncomputable def sp_flat : Spec := ⟨[.sl .node], [.rd], false, fun
  | [.dat ⟨.node, l⟩] => some (some (szL szNd l ≤ 1048576), .tup [.own true ⟨.str, flatR l⟩, .int .i64 (askT l)], [])
  | _ => none⟩
@[push_cast] theorem sp_flat_ps : sp_flat.ps = [.sl .node] := rfl
@[push_cast] theorem sp_flat_md : sp_flat.modes = [.rd] := rfl
@[push_cast] theorem sp_flat_pure : sp_flat.pure = false := rfl
@[push_cast] theorem sp_flat_run (l : List Node) : sp_flat.run [.dat ⟨.node, l⟩] = some (some (szL szNd l ≤ 1048576), .tup [.own true ⟨.str, flatR l⟩, .int .i64 (askT l)], []) := rfl
noncomputable def e_flat : Env := mk [(17, sp_askT), (18, sp_flatT)] [] [(2000000, [.nil .str 2])]
@[push_cast] theorem e_flat_gh : e_flat.gh = ghOf [(2000000, [.nil .str 2])] := rfl
@[push_cast] theorem e_flat_dr : e_flat.dr = drOf [] := rfl
@[push_cast] theorem e_flat_td : e_flat.td = td := rfl
@[push_cast] theorem e_flat_eqt : e_flat.eqt = eqt := rfl
@[push_cast] theorem e_flat_cal : e_flat.cal = calOf [(17, sp_askT), (18, sp_flatT)] := rfl
theorem c_flat : CRow P0 ety0 7 sp_flat := CRow.of (E := e_flat) (mkOk (.cons c_fault (.cons c_flatten (.nil)))) func7 rfl rfl rfl (by
  intro args p r outs h hq
  simp only [sp_flat] at h; split at h <;> cases h
  rename_i l
  have hz := hq _ rfl
  refine Body.intro (rs := [.tmp 2, .tmp 3]) rfl rfl rfl ?_
  apply vc_run 1000 (stop := false) rfl; simp only [push_cast, reduceIte, Nat.reduceEqDiff, Nat.reduceAdd, Nat.reduceSub, Nat.reduceLT, Int.reduceNeg, Int.reduceLE, Int.reduceLT, Int.reduceToNat, Nat.reduceLeDiff, UInt8.reduceOfNat, UInt8.reduceOfNatLT, and_self, Nat.reduceMul, decide_true, decide_false, Bool.not_true, Bool.not_false, implies_true]
  refine ⟨hz, fun h => ?_, fun h => ?_⟩
  · rw [flatR, show decide (askT l = 0) = false by simpa using h]; rfl
  · have hA : askT l = 0 := by simpa using h
    rw [flatR, hA]
    exact ⟨⟨hz, treeOK_sp2 (askT_0 hA).2⟩, rfl⟩)
noncomputable def e_flat2 : Env := mk [(14, sp_askT), (15, sp_flatA)] [] []
@[push_cast] theorem e_flat2_gh : e_flat2.gh = ghOf [] := rfl
@[push_cast] theorem e_flat2_dr : e_flat2.dr = drOf [] := rfl
@[push_cast] theorem e_flat2_td : e_flat2.td = td := rfl
@[push_cast] theorem e_flat2_eqt : e_flat2.eqt = eqt := rfl
@[push_cast] theorem e_flat2_cal : e_flat2.cal = calOf [(14, sp_askT), (15, sp_flatA)] := rfl
theorem c_flat2 : CRow P0 ety0 5 sp_flat := CRow.of (E := e_flat2) (mkOk (.cons c_l03Ask (.cons c_l11Flat (.nil)))) func5 rfl rfl rfl (by
  intro args p r outs h hq
  simp only [sp_flat] at h; split at h <;> cases h
  rename_i l
  have hz := hq _ rfl
  refine Body.intro (rs := [.tmp 2, .tmp 3]) rfl rfl rfl ?_
  apply vc_run 1000 (stop := false) rfl; simp only [push_cast, reduceIte, Nat.reduceEqDiff, Nat.reduceAdd, Nat.reduceSub, Nat.reduceLT, Int.reduceNeg, Int.reduceLE, Int.reduceLT, Int.reduceToNat, Nat.reduceLeDiff, UInt8.reduceOfNat, UInt8.reduceOfNatLT, and_self, Nat.reduceMul, decide_true, decide_false, Bool.not_true, Bool.not_false, implies_true]
  rw [len_4096]
  refine ⟨fun h => ?_, fun h0 => ⟨hz, fun h => ?_, fun h => ?_⟩⟩
  · have : askT l = 2 := by rw [askT, h]; rfl
    rw [flatR, this]; rfl
  · rw [flatR, show decide (askT l = 0) = false by simpa using h]; rfl
  · have hA : askT l = 0 := by simpa using h
    rw [flatR, hA]
    exact ⟨⟨hz, treeOK_sp2 (askT_0 hA).2⟩, rfl⟩)
theorem szS_cons (x : Str) (r : List Str) : szL List.length (x :: r) = 1 + x.length + szL List.length r := by simp [szL, sumL]; omega
theorem szS_app2 (a b : List Str) : szL List.length (a ++ b) = szL List.length a + szL List.length b := by
  simp only [szL, sumL, List.length_append, List.map_append, List.sum_append]; omega
theorem lineN_len (k s : Int) (m t : Str) (h : k = 2 ∨ k = 3 ∨ (0 ≤ s ∧ s < 100)) : (lineN k s m t).length ≤ 11 + m.length + t.length := by
  unfold lineN
  by_cases h2 : k = 2
  · rw [decide_eq_true h2, cond_true, List.length_append]; simp only [List.length_cons, List.length_nil]; omega
  · rw [decide_eq_false h2, cond_false]
    by_cases h3 : k = 3
    · rw [decide_eq_true h3, cond_true, List.length_append]; simp only [List.length_cons, List.length_nil]; omega
    · rw [decide_eq_false h3, cond_false]
      have hs : s < 100 := by omega
      have := dg_len s hs
      simp only [List.length_append, List.length_cons, List.length_nil]; omega
mutual
theorem good_fl : ∀ (x : Node) (d : Int), goodNd x d = true → szL List.length (flatN x) ≤ 200 * cntNd x
  | .mk k s m t a ks, d, h => by
    have hsp := good_sp (.mk k s m t a ks) d h
    rw [spNd] at hsp
    rw [goodNd, Bool.and_eq_true, Bool.and_eq_true, Bool.and_eq_true] at h
    obtain ⟨⟨_, ho, _⟩, hk⟩ := h
    have ih := goods_fl ks _ hk
    have hl := lineN_len k s m t hsp.1
    have hmt : m.length ≤ 12 ∧ t.length ≤ 120 := by
      rw [ownNd_mk, Bool.or_eq_true] at ho
      rcases ho with ho | ho
      · simp only [Bool.and_eq_true, decide_eq_true_eq] at ho
        obtain ⟨_, ⟨⟨ht, _⟩, _⟩, hx⟩ := ho
        rw [tagOK, Bool.and_eq_true, within, Bool.and_eq_true] at ht
        have := of_decide_eq_true ht.1.2
        exact ⟨by omega, by rw [hx]; exact Nat.zero_le _⟩
      · simp only [Bool.and_eq_true, Bool.or_eq_true, decide_eq_true_eq] at ho
        obtain ⟨_, ⟨⟨⟨hw, _⟩, hm⟩, _⟩, _⟩ := ho
        rw [within, Bool.and_eq_true] at hw
        have := of_decide_eq_true hw.2
        exact ⟨by rw [hm]; exact Nat.zero_le _, by omega⟩
    rw [flatN, szS_cons, cntNd]; omega
theorem goods_fl : ∀ (l : List Node) (d : Int), goodNds l d = true → szL List.length (flatT l) ≤ 200 * cntNds l
  | [], _, _ => by rw [flatT]; exact Nat.zero_le _
  | x :: r, d, h => by
    rw [goodNds, Bool.and_eq_true] at h
    have h1 := good_fl x d h.1
    have h2 := goods_fl r d h.2
    rw [flatT, szS_app2, cntNds]; omega
end
theorem flatR_sz (l : List Node) : szL List.length (flatR l) ≤ 12000 := by
  unfold flatR
  by_cases h : askT l = 0
  · obtain ⟨g1, g2⟩ := treeOK_good (askT_0 h).2
    have := goods_fl l 1 g1
    rw [decide_eq_true h, cond_true]; omega
  · rw [decide_eq_false h]; exact Nat.zero_le _
theorem sum_one2 (l : List Str) : sumL one1 l = l.length := by
  induction l with
  | nil => rfl
  | cons x l ih =>
    have e : sumL one1 (x :: l) = 1 + sumL one1 l := by simp [sumL, one1]
    rw [e, ih, List.length_cons]; omega
noncomputable def sp_lawFlatten : Spec := ⟨[.sl .node], [.rd], true, fun
  | [.dat ⟨.node, l⟩] => some (some (fitL fitNd l), .bool true, [])
  | _ => none⟩
@[push_cast] theorem sp_lawFlatten_ps : sp_lawFlatten.ps = [.sl .node] := rfl
@[push_cast] theorem sp_lawFlatten_md : sp_lawFlatten.modes = [.rd] := rfl
@[push_cast] theorem sp_lawFlatten_pure : sp_lawFlatten.pure = true := rfl
@[push_cast] theorem sp_lawFlatten_run (l : List Node) : sp_lawFlatten.run [.dat ⟨.node, l⟩] = some (some (fitL fitNd l), .bool true, []) := rfl
noncomputable def e_lawFlatten : Env := mk [(4, sp_szNodeS), (6, sp_toNodeS), (9, sp_eqNodeS), (8, sp_eqStringS), (10, sp_mkNodes), (11, sp_mkStrs), (12, sp_hdStrs), (7, sp_flat), (5, sp_flat)] [] []
@[push_cast] theorem e_lawFlatten_gh : e_lawFlatten.gh = ghOf [] := rfl
@[push_cast] theorem e_lawFlatten_dr : e_lawFlatten.dr = drOf [] := rfl
@[push_cast] theorem e_lawFlatten_td : e_lawFlatten.td = td := rfl
@[push_cast] theorem e_lawFlatten_eqt : e_lawFlatten.eqt = eqt := rfl
@[push_cast] theorem e_lawFlatten_cal : e_lawFlatten.cal = calOf [(4, sp_szNodeS), (6, sp_toNodeS), (9, sp_eqNodeS), (8, sp_eqStringS), (10, sp_mkNodes), (11, sp_mkStrs), (12, sp_hdStrs), (7, sp_flat), (5, sp_flat)] := rfl
theorem c_lawFlatten : CRow P0 ety0 3 sp_lawFlatten := CRow.of (E := e_lawFlatten) (mkOk (.cons c_szNodeS (.cons c_toNodeS (.cons c_eqNodeS (.cons c_eqStringS (.cons c_mkNodes (.cons c_mkStrs (.cons c_hdStrs (.cons c_flat (.cons c_flat2 (.nil))))))))))) func3 rfl rfl rfl (by
  intro args p r outs h hq
  simp only [sp_lawFlatten] at h; split at h <;> cases h
  rename_i l
  have hl := hq _ rfl
  refine Body.intro (rs := [.tmp 2]) rfl rfl rfl ?_
  apply vc_run 1000 (stop := false) rfl; simp only [push_cast, reduceIte, Nat.reduceEqDiff, Nat.reduceAdd, Nat.reduceSub, Nat.reduceLT, Int.reduceNeg, Int.reduceLE, Int.reduceLT, Int.reduceToNat, Nat.reduceLeDiff, UInt8.reduceOfNat, UInt8.reduceOfNatLT, and_self, Nat.reduceMul, decide_true, decide_false, Bool.not_true, Bool.not_false, implies_true]
  refine ⟨hl, fun h => ?_⟩
  obtain ⟨a1, a2, a3, a4⟩ := szR_le (of_decide_eq_false h) (by omega)
  have k1 : szL szNd l ≤ 1048576 := by omega
  have k3 : szL List.length (flatR l) ≤ 1048576 := Nat.le_trans (flatR_sz l) (by omega)
  have k4 : sumL cNd l ≤ 4 * szL szNd l := by
    have := cNds_sz l
    rwa [cNds_eq, szNds_eq] at this
  have k5 := sum_one2 (flatR l)
  have k7 := szL_len List.length (flatR l)
  clear hq h a1 a2 a3 a4
  simp only [eqB_self, Bool.not_true, cond_true, cond_false, decide_true, forall_const, reduceCtorEq, false_implies, implies_true, true_and, and_true]
  generalize flatR l = R at *
  have n1 : decide ((1 : Int) + (sumL cNd l : Nat) < 0) = false := decide_eq_false (by omega)
  have n2 : decide ((1 : Int) + (sumL one1 R : Nat) < 0) = false := decide_eq_false (by omega)
  have n3 : Mkd mkSt one1 (mkL mkSt one1 R 1) 1 := (mkL_idem mkSt one1 (fun _ _ => rfl) (fun _ _ => rfl) R 1).symm
  have n4 : sumL one1 (mkL mkSt one1 R 1) = sumL one1 R := mkL_sum mkSt one1 (fun _ _ => rfl) R 1
  simp only [n4, n1, n2, n3, cond_false, decide_true, Bool.not_true, reduceCtorEq, false_implies, implies_true, forall_const, and_true, true_and]
  have n5 : (1 : Int) + (sumL cNd l : Nat) ≤ 1073741824 := by omega
  have n7 : (1 : Int) + (sumL one1 R : Nat) ≤ 1073741824 := by omega
  simp only [k1, k3, n5, n7, and_self])
end Go.Ab
