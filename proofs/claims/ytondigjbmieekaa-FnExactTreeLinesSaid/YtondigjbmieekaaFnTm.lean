/- The lines of a tree, as they are told: the law. -/
import Derived.Test.YtondigjbmieekaaFnTl
import Derived.Test.YtondigjbmieekaaFnAk
import Derived.Test.YtondigjbmieekaaFnMm
set_option linter.all false
set_option linter.unusedSimpArgs false
set_option linter.unusedVariables false
set_option linter.unusedSectionVars false
set_option maxRecDepth 20000
set_option maxHeartbeats 1000000
namespace Go.Ab
open Go Go.Proofs.Try
theorem treeOK_s3 {l : List Node} (h : treeOK l = true) : s3Nds l := goods_s3 l 1 (treeOK_good h).1
def linR (l : List Node) : List Str := bif decide (askT l = 0) then linT [] l else []
noncomputable def sp_lin : Spec := ⟨[.sl .node], [.rd], false, fun
  | [.dat ⟨.node, l⟩] => some (some (szL szNd l ≤ 1048576), .tup [.own true ⟨.str, linR l⟩, .int .i64 (askT l)], [])
  | _ => none⟩
@[push_cast] theorem sp_lin_ps : sp_lin.ps = [.sl .node] := rfl
@[push_cast] theorem sp_lin_md : sp_lin.modes = [.rd] := rfl
@[push_cast] theorem sp_lin_pure : sp_lin.pure = false := rfl
@[push_cast] theorem sp_lin_run (l : List Node) : sp_lin.run [.dat ⟨.node, l⟩] = some (some (szL szNd l ≤ 1048576), .tup [.own true ⟨.str, linR l⟩, .int .i64 (askT l)], []) := rfl
noncomputable def e_lin : Env := mk [(56, sp_askT), (57, sp_linT0)] [] [(2000000, [.nil .str 2])] [] none
@[push_cast] theorem e_lin_in : e_lin.inl = inlF [] := rfl
@[push_cast] theorem e_lin_fn : e_lin.fnd = fndF none := rfl
@[push_cast] theorem e_lin_gh : e_lin.gh = ghOf [(2000000, [.nil .str 2])] := rfl
@[push_cast] theorem e_lin_dr : e_lin.dr = drOf [] := rfl
@[push_cast] theorem e_lin_td : e_lin.td = td := rfl
@[push_cast] theorem e_lin_eqt : e_lin.eqt = eqt := rfl
@[push_cast] theorem e_lin_cal : e_lin.cal = calOf [(56, sp_askT), (57, sp_linT0)] := rfl
theorem c_lin : CRow P0 ety0 20 sp_lin := CRow.of (E := e_lin) (mkOk (.cons c_fault (.cons c_treeLines (.nil)))) func20 rfl rfl rfl (by
  intro args p r outs h hq
  simp only [sp_lin] at h; split at h <;> cases h
  rename_i l
  have hz := hq _ rfl
  refine Body.intro (rs := [.tmp 2, .tmp 3]) rfl rfl rfl ?_
  apply vc_run 1000 (stop := false) rfl; simp only [push_cast, reduceIte, Nat.reduceEqDiff, Nat.reduceAdd, Nat.reduceSub, Nat.reduceLT, Int.reduceNeg, Int.reduceLE, Int.reduceLT, Int.reduceToNat, Nat.reduceLeDiff, UInt8.reduceOfNat, UInt8.reduceOfNatLT, and_self, Nat.reduceMul, decide_true, decide_false, Bool.not_true, Bool.not_false, implies_true]
  refine ⟨hz, fun h => ?_, fun h => ?_⟩
  · rw [linR, show decide (askT l = 0) = false by simpa using h]; rfl
  · have hA : askT l = 0 := by simpa using h
    rw [linR, hA]
    exact ⟨⟨hz, treeOK_s3 (askT_0 hA).2⟩, rfl⟩)
noncomputable def e_lin2 : Env := mk [(54, sp_askT), (55, sp_linA)] [] [] [] none
@[push_cast] theorem e_lin2_in : e_lin2.inl = inlF [] := rfl
@[push_cast] theorem e_lin2_fn : e_lin2.fnd = fndF none := rfl
@[push_cast] theorem e_lin2_gh : e_lin2.gh = ghOf [] := rfl
@[push_cast] theorem e_lin2_dr : e_lin2.dr = drOf [] := rfl
@[push_cast] theorem e_lin2_td : e_lin2.td = td := rfl
@[push_cast] theorem e_lin2_eqt : e_lin2.eqt = eqt := rfl
@[push_cast] theorem e_lin2_cal : e_lin2.cal = calOf [(54, sp_askT), (55, sp_linA)] := rfl
theorem c_lin2 : CRow P0 ety0 18 sp_lin := CRow.of (E := e_lin2) (mkOk (.cons c_l03Ask (.cons c_l12Lines (.nil)))) func18 rfl rfl rfl (by
  intro args p r outs h hq
  simp only [sp_lin] at h; split at h <;> cases h
  rename_i l
  have hz := hq _ rfl
  refine Body.intro (rs := [.tmp 2, .tmp 3]) rfl rfl rfl ?_
  apply vc_run 1000 (stop := false) rfl; simp only [push_cast, reduceIte, Nat.reduceEqDiff, Nat.reduceAdd, Nat.reduceSub, Nat.reduceLT, Int.reduceNeg, Int.reduceLE, Int.reduceLT, Int.reduceToNat, Nat.reduceLeDiff, UInt8.reduceOfNat, UInt8.reduceOfNatLT, and_self, Nat.reduceMul, decide_true, decide_false, Bool.not_true, Bool.not_false, implies_true]
  rw [len_4096]
  refine ⟨fun h => ?_, fun h0 => ⟨hz, fun h => ?_, fun h => ?_⟩⟩
  · have : askT l = 2 := by rw [askT, h]; rfl
    rw [linR, this]; rfl
  · rw [linR, show decide (askT l = 0) = false by simpa using h]; rfl
  · have hA : askT l = 0 := by simpa using h
    rw [linR, hA]
    exact ⟨⟨hz, treeOK_s3 (askT_0 hA).2⟩, rfl⟩)
theorem szS_cons3 (x : Str) (r : List Str) : szL List.length (x :: r) = 1 + x.length + szL List.length r := by simp [szL, sumL]; omega
theorem szS_app3 (a b : List Str) : szL List.length (a ++ b) = szL List.length a + szL List.length b := by
  simp only [szL, sumL, List.length_append, List.map_append, List.sum_append]; omega
theorem ownNd_z3 {x : Node} (h : ownNd x = true) : x.name.length ≤ 12 ∧ x.text.length ≤ 120 ∧ szL szAt x.attrs ≤ 318 := by
  have tag : ∀ {t : Str}, tagOK t = true → t.length ≤ 12 := fun {t} ht => by
    rw [tagOK, Bool.and_eq_true, within, Bool.and_eq_true] at ht
    have := of_decide_eq_true ht.1.2
    omega
  rw [ownNd, Bool.or_eq_true] at h
  rcases h with h | h
  · simp only [Bool.and_eq_true, decide_eq_true_eq] at h
    obtain ⟨_, ⟨⟨ht, _⟩, ha⟩, hx⟩ := h
    refine ⟨tag ht, by rw [hx]; exact Nat.zero_le _, ?_⟩
    rw [attrsOK, Bool.and_eq_true, List.all_eq_true] at ha
    have h6 := of_decide_eq_true ha.1
    have hall : ∀ a ∈ x.attrs, szAt a ≤ 52 := fun a hm => by
      obtain ⟨i, hi, he⟩ := List.getElem_of_mem hm
      have := ha.2 i (List.mem_range.2 hi)
      rw [attrAtOK, Bool.and_eq_true] at this
      have e : x.attrs.getD i attrD = a := by simp [List.getD, hi, he]
      rw [e] at this
      have hk := this.1
      rw [attrOK, Bool.and_eq_true] at hk
      have := tag hk.1
      have := of_decide_eq_true hk.2
      unfold szAt; omega
    have : ∀ (l : List Attr), (∀ a ∈ l, szAt a ≤ 52) → szL szAt l ≤ 53 * l.length := by
      intro l
      induction l with
      | nil => intro _; exact Nat.zero_le _
      | cons a l ih =>
        intro h
        have h1 := h a (List.mem_cons_self ..)
        have h2 := ih fun b hb => h b (List.mem_cons_of_mem _ hb)
        have e : szL szAt (a :: l) = 1 + szAt a + szL szAt l := by simp [szL, sumL]; omega
        rw [e, List.length_cons]; omega
    have := this _ hall
    omega
  · simp only [Bool.and_eq_true, Bool.or_eq_true, decide_eq_true_eq] at h
    obtain ⟨_, ⟨⟨⟨hw, _⟩, hm⟩, ha⟩, _⟩ := h
    rw [within, Bool.and_eq_true] at hw
    have := of_decide_eq_true hw.2
    refine ⟨by rw [hm]; exact Nat.zero_le _, by omega, ?_⟩
    rw [List.isEmpty_iff.1 ha]; exact Nat.zero_le _
theorem lineQ_le (d : Str) (k s : Int) (m t : Str) (ys : List Attr) : (lineQ d k s m t ys).length ≤ d.length + (3 * t.length + 10) + 5 + m.length + 4 * szL szAt ys := by
  have h1 := quote_le t
  have h2 := placeB_le s
  have h3 := attrsB_le ys
  unfold lineQ
  cases decide (k = 2) <;> cases decide (k = 3) <;> simp only [cond_true, cond_false, List.length_append, List.length_cons, List.length_nil] <;> omega
mutual
theorem good_ln : ∀ (x : Node) (d : Str) (e : Int), goodNd x e = true → (d.length : Int) ≤ e → szL List.length (linN d x) ≤ 1800 * cntNd x
  | .mk k s n t a ks, d, e, h, hd => by
    rw [goodNd, Bool.and_eq_true, Bool.and_eq_true, Bool.and_eq_true] at h
    obtain ⟨⟨he, ho, _⟩, hk⟩ := h
    have he := of_decide_eq_true he
    have h3 := ownNd_z3 ho
    have h3' : n.length ≤ 12 ∧ t.length ≤ 120 ∧ szL szAt a ≤ 318 := h3
    have h4 := goods_ln ks (d ++ [46]) (e + 1) hk (by rw [List.length_append, List.length_singleton]; omega)
    have h5 := lineQ_le d k s n t a
    rw [linN, szS_cons3, cntNd]
    omega
theorem goods_ln : ∀ (l : List Node) (d : Str) (e : Int), goodNds l e = true → (d.length : Int) ≤ e → szL List.length (linT d l) ≤ 1800 * cntNds l
  | [], _, _, _, _ => by rw [linT]; exact Nat.zero_le _
  | x :: r, d, e, h, hd => by
    rw [goodNds, Bool.and_eq_true] at h
    have h1 := good_ln x d e h.1 hd
    have h2 := goods_ln r d e h.2 hd
    rw [linT, szS_app3, cntNds]; omega
end
theorem linR_sz (l : List Node) : szL List.length (linR l) ≤ 108000 := by
  unfold linR
  by_cases h : askT l = 0
  · obtain ⟨g1, g2⟩ := treeOK_good (askT_0 h).2
    have := goods_ln l [] 1 g1 (by simp)
    rw [decide_eq_true h, cond_true]; omega
  · rw [decide_eq_false h]; exact Nat.zero_le _
theorem sum_one3 (l : List Str) : sumL one1 l = l.length := by
  induction l with
  | nil => rfl
  | cons x l ih =>
    have e : sumL one1 (x :: l) = 1 + sumL one1 l := by simp [sumL, one1]
    rw [e, ih, List.length_cons]; omega
noncomputable def sp_lawTreeLines : Spec := ⟨[.sl .node], [.rd], true, fun
  | [.dat ⟨.node, l⟩] => some (some (fitL fitNd l), .bool true, [])
  | _ => none⟩
@[push_cast] theorem sp_lawTreeLines_ps : sp_lawTreeLines.ps = [.sl .node] := rfl
@[push_cast] theorem sp_lawTreeLines_md : sp_lawTreeLines.modes = [.rd] := rfl
@[push_cast] theorem sp_lawTreeLines_pure : sp_lawTreeLines.pure = true := rfl
@[push_cast] theorem sp_lawTreeLines_run (l : List Node) : sp_lawTreeLines.run [.dat ⟨.node, l⟩] = some (some (fitL fitNd l), .bool true, []) := rfl
noncomputable def e_lawTreeLines : Env := mk [(17, sp_szNodeS), (19, sp_toNodeS), (22, sp_eqNodeS), (21, sp_eqStringS), (23, sp_mkNodes), (24, sp_mkStrs), (25, sp_hdStrs), (20, sp_lin), (18, sp_lin)] [] [] [] none
@[push_cast] theorem e_lawTreeLines_in : e_lawTreeLines.inl = inlF [] := rfl
@[push_cast] theorem e_lawTreeLines_fn : e_lawTreeLines.fnd = fndF none := rfl
@[push_cast] theorem e_lawTreeLines_gh : e_lawTreeLines.gh = ghOf [] := rfl
@[push_cast] theorem e_lawTreeLines_dr : e_lawTreeLines.dr = drOf [] := rfl
@[push_cast] theorem e_lawTreeLines_td : e_lawTreeLines.td = td := rfl
@[push_cast] theorem e_lawTreeLines_eqt : e_lawTreeLines.eqt = eqt := rfl
@[push_cast] theorem e_lawTreeLines_cal : e_lawTreeLines.cal = calOf [(17, sp_szNodeS), (19, sp_toNodeS), (22, sp_eqNodeS), (21, sp_eqStringS), (23, sp_mkNodes), (24, sp_mkStrs), (25, sp_hdStrs), (20, sp_lin), (18, sp_lin)] := rfl
theorem c_lawTreeLines : CRow P0 ety0 4 sp_lawTreeLines := CRow.of (E := e_lawTreeLines) (mkOk (.cons c_szNodeS (.cons c_toNodeS (.cons c_eqNodeS (.cons c_eqStringS (.cons c_mkNodes (.cons c_mkStrs (.cons c_hdStrs (.cons c_lin (.cons c_lin2 (.nil))))))))))) func4 rfl rfl rfl (by
  intro args p r outs h hq
  simp only [sp_lawTreeLines] at h; split at h <;> cases h
  rename_i l
  have hl := hq _ rfl
  refine Body.intro (rs := [.tmp 2]) rfl rfl rfl ?_
  apply vc_run 1000 (stop := false) rfl; simp only [push_cast, reduceIte, Nat.reduceEqDiff, Nat.reduceAdd, Nat.reduceSub, Nat.reduceLT, Int.reduceNeg, Int.reduceLE, Int.reduceLT, Int.reduceToNat, Nat.reduceLeDiff, UInt8.reduceOfNat, UInt8.reduceOfNatLT, and_self, Nat.reduceMul, decide_true, decide_false, Bool.not_true, Bool.not_false, implies_true]
  refine ⟨hl, fun h => ?_⟩
  obtain ⟨a1, a2, a3, a4⟩ := szR_le (of_decide_eq_false h) (by omega)
  have k1 : szL szNd l ≤ 1048576 := by omega
  have k3 : szL List.length (linR l) ≤ 1048576 := Nat.le_trans (linR_sz l) (by omega)
  have k4 := sumNdz l
  have k5 := sum_one3 (linR l)
  have k7 := szL_len List.length (linR l)
  clear hq h a1 a2 a3 a4
  simp only [eqB_self, Bool.not_true, cond_true, cond_false, decide_true, forall_const, reduceCtorEq, false_implies, implies_true, true_and, and_true]
  generalize linR l = R at *
  have n1 : decide ((1 : Int) + (sumL cNd l : Nat) < 0) = false := decide_eq_false (by omega)
  have n2 : decide ((1 : Int) + (sumL one1 R : Nat) < 0) = false := decide_eq_false (by omega)
  have n3 : Mkd mkSt one1 (mkL mkSt one1 R 1) 1 := (mkL_idem mkSt one1 (fun _ _ => rfl) (fun _ _ => rfl) R 1).symm
  have n4 : sumL one1 (mkL mkSt one1 R 1) = sumL one1 R := mkL_sum mkSt one1 (fun _ _ => rfl) R 1
  simp only [n4, n1, n2, n3, cond_false, decide_true, Bool.not_true, reduceCtorEq, false_implies, implies_true, forall_const, and_true, true_and]
  have n5 : (1 : Int) + (sumL cNd l : Nat) ≤ 1073741824 := by omega
  have n7 : (1 : Int) + (sumL one1 R : Nat) ≤ 1073741824 := by omega
  simp only [k1, k3, n5, n7, and_self])
end Go.Ab
