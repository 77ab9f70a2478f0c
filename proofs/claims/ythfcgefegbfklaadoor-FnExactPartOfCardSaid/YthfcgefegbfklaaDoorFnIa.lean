/- Whether the lines of a tree stand among those of another one. -/
import Derived.Test.YthfcgefegbfklaaDoorFnI
import Derived.Test.YthfcgefegbfklaaDoorFnAk
set_option linter.all false
set_option linter.unusedSimpArgs false
set_option linter.unusedVariables false
set_option linter.unusedSectionVars false
set_option maxRecDepth 20000
set_option maxHeartbeats 1000000
namespace Go.Ab
open Go Go.Proofs.Tryd
theorem treeOK_sp {l : List Node} (h : treeOK l = true) : spNds l := goods_sp l 1 (treeOK_good h).1
/-- A line is looked for. -/
def stepL (s : List Str) (a : Str) : List Str := match s with
  | [] => []
  | x :: r => bif decide (x = a) then r else x :: r
def eatL (x y : List Str) : List Str := y.foldl stepL x
theorem eatL_take {x y : List Str} {j : Nat} (h : j < y.length) : eatL x (y.take (j + 1)) = stepL (eatL x (y.take j)) (y.getD j []) := by
  rw [eatL, List.take_succ_eq_append_getElem h, List.foldl_append]
  simp [List.getD, h, eatL]
theorem eatL_nil (y : List Str) : eatL [] y = [] := by
  unfold eatL
  induction y with
  | nil => rfl
  | cons a y ih => exact ih
theorem eatL_split (x y : List Str) (j : Nat) : eatL x y = eatL (eatL x (y.take j)) (y.drop j) := by
  unfold eatL
  rw [← List.foldl_append, List.take_append_drop]
theorem eatL_len (x y : List Str) : (eatL x y).length ≤ x.length := by
  unfold eatL
  induction y generalizing x with
  | nil => exact Nat.le_refl _
  | cons a y ih =>
    refine Nat.le_trans (ih _) ?_
    cases x with
    | nil => exact Nat.le_refl _
    | cons b r =>
      show (bif decide (b = a) then r else b :: r).length ≤ r.length + 1
      cases decide (b = a)
      · exact Nat.le_refl _
      · exact Nat.le_succ _
def partB (a b : List Node) : Bool := (eatL (flatT a) (flatT b)).isEmpty
def partC (a b : List Node) : Int := bif decide (4096 < a.length) || decide (4096 < b.length) then 2 else bif treeOK a && treeOK b then 0 else 1
theorem partC_long {a b : List Node} (h : (decide (4096 < a.length) || decide (4096 < b.length)) = true) : partC a b = 2 := by rw [partC, h]; rfl
theorem partC_bad {a b : List Node} (h : (decide (4096 < a.length) || decide (4096 < b.length)) = false) (h2 : (treeOK a && treeOK b) = false) : partC a b = 1 := by rw [partC, h, h2]; rfl
theorem partC_ok {a b : List Node} (h : (decide (4096 < a.length) || decide (4096 < b.length)) = false) (h2 : (treeOK a && treeOK b) = true) : partC a b = 0 := by rw [partC, h, h2]; rfl
noncomputable def sp_partOf : Spec := ⟨[.sl .node, .sl .node], [.rd, .rd], true, fun
  | [.dat ⟨.node, a⟩, .dat ⟨.node, b⟩] => some (some (szL szNd a ≤ 1048576 ∧ szL szNd b ≤ 1048576), .tup [.bool (decide (partC a b = 0) && partB a b), .int .i64 (partC a b)], [])
  | _ => none⟩
@[push_cast] theorem sp_partOf_ps : sp_partOf.ps = [.sl .node, .sl .node] := rfl
@[push_cast] theorem sp_partOf_md : sp_partOf.modes = [.rd, .rd] := rfl
@[push_cast] theorem sp_partOf_pure : sp_partOf.pure = true := rfl
@[push_cast] theorem sp_partOf_run (a b : List Node) : sp_partOf.run [.dat ⟨.node, a⟩, .dat ⟨.node, b⟩] = some (some (szL szNd a ≤ 1048576 ∧ szL szNd b ≤ 1048576), .tup [.bool (decide (partC a b = 0) && partB a b), .int .i64 (partC a b)], []) := rfl
noncomputable def e_partOf : Env := mk [(14, sp_treeOK), (15, sp_flatT)] [] [(27, [.frz 6]), (29, [.frz 28])]
@[push_cast] theorem e_partOf_gh : e_partOf.gh = ghOf [(27, [.frz 6]), (29, [.frz 28])] := rfl
@[push_cast] theorem e_partOf_dr : e_partOf.dr = drOf [] := rfl
@[push_cast] theorem e_partOf_td : e_partOf.td = td := rfl
@[push_cast] theorem e_partOf_eqt : e_partOf.eqt = eqt := rfl
@[push_cast] theorem e_partOf_cal : e_partOf.cal = calOf [(14, sp_treeOK), (15, sp_flatT)] := rfl
theorem c_partOf : CRow P0 ety0 7 sp_partOf := CRow.of (E := e_partOf) (mkOk (.cons c_treeOK (.cons c_flatten (.nil)))) func7 rfl rfl rfl (by
  intro args p r outs h hq
  simp only [sp_partOf] at h; split at h <;> cases h
  rename_i a b
  obtain ⟨hz, hz2⟩ := hq _ rfl
  refine Body.intro (rs := [.tmp 4, .tmp 5]) rfl rfl rfl ?_
  apply vc_run 1000 (stop := false) rfl; simp only [push_cast, reduceIte, Nat.reduceEqDiff, Nat.reduceAdd, Nat.reduceSub, Nat.reduceLT, Int.reduceNeg, Int.reduceLE, Int.reduceLT, Int.reduceToNat, Nat.reduceLeDiff, UInt8.reduceOfNat, UInt8.reduceOfNatLT, and_self, Nat.reduceMul, decide_true, decide_false, Bool.not_true, Bool.not_false, implies_true]
  simp only [len_4096]
  have hfl := flatT_len b
  have hfs := cntNds_sz b
  rw [szNds_eq] at hfs
  simp only [Bool.cond_true_left]
  refine ⟨fun h => by rw [partC_long h]; rfl, fun h => ⟨hz, fun _ => hz2, fun h2 => ?_, fun h2 => ?_⟩⟩
  · rw [partC_bad h (by revert h2; cases treeOK a <;> cases treeOK b <;> simp)]; rfl
  have h2 : (treeOK a && treeOK b) = true := by revert h2; cases treeOK a <;> cases treeOK b <;> simp
  rw [partC_ok h h2]
  rw [Bool.and_eq_true] at h2
  refine ⟨⟨hz, treeOK_sp h2.1⟩, ⟨hz2, treeOK_sp h2.2⟩, ?_⟩
  refine Run.loop [6, 30] [28, 29] [] rfl (fun m vs bs => ∃ j : Nat, vs = [.dat ⟨.str, eatL (flatT a) ((flatT b).take j)⟩, .int .i64 j] ∧ bs = [] ∧ j ≤ (flatT b).length ∧ m = (flatT b).length - j) (flatT b).length ?_ ?_
  · simp only [push_cast, reduceIte, Nat.reduceEqDiff, Nat.reduceAdd, Nat.reduceSub, Nat.reduceLT, Int.reduceNeg, Int.reduceLE, Int.reduceLT, Int.reduceToNat, Nat.reduceLeDiff, UInt8.reduceOfNat, UInt8.reduceOfNatLT, and_self, Nat.reduceMul, decide_true, decide_false, Bool.not_true, Bool.not_false, implies_true]
    exact ⟨0, rfl, by omega, by omega⟩
  rintro m vs bs ⟨j, rfl, rfl, hj, rfl⟩
  simp only [push_cast, reduceIte, Nat.reduceEqDiff, Nat.reduceAdd, Nat.reduceSub, Nat.reduceLT, Int.reduceNeg, Int.reduceLE, Int.reduceLT, Int.reduceToNat, Nat.reduceLeDiff, UInt8.reduceOfNat, UInt8.reduceOfNatLT, and_self, Nat.reduceMul, decide_true, decide_false, Bool.not_true, Bool.not_false, implies_true]
  apply vc_run 1000 (stop := false) rfl; simp only [push_cast, reduceIte, Nat.reduceEqDiff, Nat.reduceAdd, Nat.reduceSub, Nat.reduceLT, Int.reduceNeg, Int.reduceLE, Int.reduceLT, Int.reduceToNat, Nat.reduceLeDiff, UInt8.reduceOfNat, UInt8.reduceOfNatLT, and_self, Nat.reduceMul, decide_true, decide_false, Bool.not_true, Bool.not_false, implies_true]
  obtain ⟨s, hs⟩ : ∃ s, s = eatL (flatT a) ((flatT b).take j) := ⟨_, rfl⟩
  rw [← hs]
  refine ⟨fun hlt => ?_, fun hge => ?_⟩
  · have hlt : j < (flatT b).length := Int.ofNat_lt.1 (of_decide_eq_true hlt)
    have ht := eatL_take (x := flatT a) hlt
    rw [← hs] at ht
    simp only [gd_nat]
    cases s with
    | nil =>
      refine ⟨by omega, fun h => by simp at h, fun h => by simp at h, fun _ => ⟨by constructor <;> omega, _, ?_, j + 1, by rw [ht]; rfl, by omega, rfl⟩⟩
      omega
    | cons x r =>
      have e0 : gd (x :: r) [] 0 = x := rfl
      have el : decide ((0 : Int) < ((x :: r).length : Int)) = true := decide_eq_true (by simp only [List.length_cons]; omega)
      rw [e0, el]
      refine ⟨by omega, fun _ => by simp only [List.length_cons]; omega, fun h => ⟨by simp only [List.length_cons]; omega, by constructor <;> omega, _, ?_, j + 1, ?_, by omega, rfl⟩, fun h => ⟨by constructor <;> omega, _, ?_, j + 1, ?_, by omega, rfl⟩⟩
      · omega
      · have h : decide (x = (flatT b).getD j []) = true := h
        have e : cut (x :: r) 1 ((x :: r).length : Int) = r := by simp [cut]
        rw [ht, e, stepL, h]; rfl
      · omega
      · have h : decide (x = (flatT b).getD j []) = false := h
        rw [ht, stepL, h]; rfl
  · have hge : j = (flatT b).length := by have := of_decide_eq_false hge; omega
    subst hge
    rw [List.take_length] at hs
    have : decide ((s.length : Int) = 0) = partB a b := by
      rw [partB, ← hs]
      cases s with
      | nil => rfl
      | cons x r => exact decide_eq_false (by simp only [List.length_cons]; omega)
    rw [this])
noncomputable def e_partOf2 : Env := mk [(10, sp_askT), (11, sp_treeOK), (12, sp_flatA)] [(16, [], [])] [(9, [.frz 7, .frz 8])]
@[push_cast] theorem e_partOf2_gh : e_partOf2.gh = ghOf [(9, [.frz 7, .frz 8])] := rfl
@[push_cast] theorem e_partOf2_dr : e_partOf2.dr = drOf [(16, [], [])] := rfl
@[push_cast] theorem e_partOf2_td : e_partOf2.td = td := rfl
@[push_cast] theorem e_partOf2_eqt : e_partOf2.eqt = eqt := rfl
@[push_cast] theorem e_partOf2_cal : e_partOf2.cal = calOf [(10, sp_askT), (11, sp_treeOK), (12, sp_flatA)] := rfl
theorem c_partOf2 : CRow P0 ety0 5 sp_partOf := CRow.of (E := e_partOf2) (mkOk (.cons c_l03Ask (.cons c_treeOK2 (.cons c_l11Flat (.nil))))) func5 rfl rfl rfl (by
  intro args p r outs h hq
  simp only [sp_partOf] at h; split at h <;> cases h
  rename_i a b
  obtain ⟨hz, hz2⟩ := hq _ rfl
  refine Body.intro (rs := [.tmp 4, .tmp 5]) rfl rfl rfl ?_
  apply vc_run 1000 (stop := false) rfl; simp only [push_cast, reduceIte, Nat.reduceEqDiff, Nat.reduceAdd, Nat.reduceSub, Nat.reduceLT, Int.reduceNeg, Int.reduceLE, Int.reduceLT, Int.reduceToNat, Nat.reduceLeDiff, UInt8.reduceOfNat, UInt8.reduceOfNatLT, and_self, Nat.reduceMul, decide_true, decide_false, Bool.not_true, Bool.not_false, implies_true]
  simp only [len_4096]
  have hfl := flatT_len b
  have hfs := cntNds_sz b
  have hgl := flatT_len a
  have hgs := cntNds_sz a
  rw [szNds_eq] at hfs hgs
  refine ⟨fun h => by rw [partC_long (by rw [h]; rfl)]; rfl, fun h => ⟨fun h1 => by rw [partC_long (by rw [h1, Bool.or_true])]; rfl, fun h1 => ⟨hz, fun h2 => ?_, fun h2 => ⟨hz2, fun h3 => ?_, fun h3 => ?_⟩⟩⟩⟩
  · have hA : askT a = bif treeOK a then 0 else 1 := by rw [askT, h]; rfl
    have ht : treeOK a = false := by
      cases ht : treeOK a with
      | false => rfl
      | true => rw [hA, ht] at h2; cases h2
    rw [hA, ht, partC_bad (by rw [h, h1]; rfl) (by rw [ht]; rfl)]; rfl
  · rw [partC_bad (by rw [h, h1]; rfl) (by rw [show treeOK b = false by simpa using h3, Bool.and_false])]; rfl
  have hta := (askT_0 (show askT a = 0 by simpa using h2)).2
  have htb : treeOK b = true := by simpa using h3
  rw [partC_ok (by rw [h, h1]; rfl) (by rw [hta, htb]; rfl)]
  refine ⟨⟨hz, treeOK_sp hta⟩, ⟨hz2, treeOK_sp htb⟩, ?_⟩
  refine Run.loop [9, 10] [7, 8] [] rfl (fun m vs bs => ∃ k j : Nat, vs = [.int .i64 k, .int .i64 j] ∧ bs = [] ∧ j ≤ (flatT b).length ∧ k ≤ (flatT a).length ∧ eatL (flatT a) ((flatT b).take j) = (flatT a).drop k ∧ m = (flatT b).length - j) (flatT b).length ?_ ?_
  · simp only [push_cast, reduceIte, Nat.reduceEqDiff, Nat.reduceAdd, Nat.reduceSub, Nat.reduceLT, Int.reduceNeg, Int.reduceLE, Int.reduceLT, Int.reduceToNat, Nat.reduceLeDiff, UInt8.reduceOfNat, UInt8.reduceOfNatLT, and_self, Nat.reduceMul, decide_true, decide_false, Bool.not_true, Bool.not_false, implies_true]
    exact ⟨0, 0, rfl, by omega, by omega, rfl, by omega⟩
  rintro m vs bs ⟨k, j, rfl, rfl, hj, hk, he, rfl⟩
  simp only [push_cast, reduceIte, Nat.reduceEqDiff, Nat.reduceAdd, Nat.reduceSub, Nat.reduceLT, Int.reduceNeg, Int.reduceLE, Int.reduceLT, Int.reduceToNat, Nat.reduceLeDiff, UInt8.reduceOfNat, UInt8.reduceOfNatLT, and_self, Nat.reduceMul, decide_true, decide_false, Bool.not_true, Bool.not_false, implies_true]
  apply vc_run 1000 (stop := false) rfl; simp only [push_cast, reduceIte, Nat.reduceEqDiff, Nat.reduceAdd, Nat.reduceSub, Nat.reduceLT, Int.reduceNeg, Int.reduceLE, Int.reduceLT, Int.reduceToNat, Nat.reduceLeDiff, UInt8.reduceOfNat, UInt8.reduceOfNatLT, and_self, Nat.reduceMul, decide_true, decide_false, Bool.not_true, Bool.not_false, implies_true]
  refine ⟨fun hc => ?_, fun hc => ?_⟩
  · have hlt : j < (flatT b).length ∧ k < (flatT a).length := by
      by_cases h4 : j < (flatT b).length
      · rw [decide_eq_true (show (j : Int) < (flatT b).length by omega), cond_true] at hc
        have := of_decide_eq_true hc
        exact ⟨h4, by omega⟩
      · rw [decide_eq_false (show ¬ (j : Int) < (flatT b).length by omega)] at hc; cases hc
    obtain ⟨hlt, hk2⟩ := hlt
    have ht := eatL_take (x := flatT a) hlt
    have hd : (flatT a).drop k = (flatT a).getD k [] :: (flatT a).drop (k + 1) := by
      rw [List.drop_eq_getElem_cons hk2]; simp [List.getD, hk2]
    rw [he, hd] at ht
    simp only [gd_nat]
    refine ⟨by omega, by omega, fun h => ⟨by constructor <;> omega, by constructor <;> omega, _, ?_, k + 1, j + 1, rfl, by omega, by omega, ?_, rfl⟩, fun h => ⟨by constructor <;> omega, _, ?_, k, j + 1, rfl, by omega, by omega, ?_, rfl⟩⟩
    · omega
    · rw [ht, stepL, h]; rfl
    · omega
    · rw [ht, stepL, h, hd]; rfl
  · have : decide ((k : Int) = ((flatT a).length : Int)) = partB a b := by
      rw [partB, eatL_split _ _ j, he]
      by_cases h4 : k = (flatT a).length
      · rw [h4, List.drop_length, eatL_nil, decide_eq_true rfl]; rfl
      · have h5 : ¬ j < (flatT b).length := fun h5 => by
          rw [decide_eq_true (show (j : Int) < (flatT b).length by omega), cond_true] at hc
          have := of_decide_eq_false hc
          omega
        rw [List.drop_eq_nil_of_le (show (flatT b).length ≤ j by omega), decide_eq_false (by omega)]
        show false = ((flatT a).drop k).isEmpty
        cases hd : (flatT a).drop k with
        | nil =>
          have := congrArg List.length hd
          rw [List.length_drop, List.length_nil] at this
          omega
        | cons x r => rfl
    rw [this])
noncomputable def sp_lawPartOf : Spec := ⟨[.sl .node, .sl .node], [.rd, .rd], true, fun
  | [.dat ⟨.node, a⟩, .dat ⟨.node, b⟩] => some (some (fitL fitNd a ∧ fitL fitNd b), .bool true, [])
  | _ => none⟩
@[push_cast] theorem sp_lawPartOf_ps : sp_lawPartOf.ps = [.sl .node, .sl .node] := rfl
@[push_cast] theorem sp_lawPartOf_md : sp_lawPartOf.modes = [.rd, .rd] := rfl
@[push_cast] theorem sp_lawPartOf_pure : sp_lawPartOf.pure = true := rfl
@[push_cast] theorem sp_lawPartOf_run (a b : List Node) : sp_lawPartOf.run [.dat ⟨.node, a⟩, .dat ⟨.node, b⟩] = some (some (fitL fitNd a ∧ fitL fitNd b), .bool true, []) := rfl
noncomputable def e_lawPartOf : Env := mk [(4, sp_szNodeS), (6, sp_toNodeS), (8, sp_eqNodeS), (7, sp_partOf), (5, sp_partOf)] [] []
@[push_cast] theorem e_lawPartOf_gh : e_lawPartOf.gh = ghOf [] := rfl
@[push_cast] theorem e_lawPartOf_dr : e_lawPartOf.dr = drOf [] := rfl
@[push_cast] theorem e_lawPartOf_td : e_lawPartOf.td = td := rfl
@[push_cast] theorem e_lawPartOf_eqt : e_lawPartOf.eqt = eqt := rfl
@[push_cast] theorem e_lawPartOf_cal : e_lawPartOf.cal = calOf [(4, sp_szNodeS), (6, sp_toNodeS), (8, sp_eqNodeS), (7, sp_partOf), (5, sp_partOf)] := rfl
theorem c_lawPartOf : CRow P0 ety0 3 sp_lawPartOf := CRow.of (E := e_lawPartOf) (mkOk (.cons c_szNodeS (.cons c_toNodeS (.cons c_eqNodeS (.cons c_partOf (.cons c_partOf2 (.nil))))))) func3 rfl rfl rfl (by
  intro args p r outs h hq
  simp only [sp_lawPartOf] at h; split at h <;> cases h
  rename_i a b
  obtain ⟨hl, hl2⟩ := hq _ rfl
  refine Body.intro (rs := [.tmp 4]) rfl rfl rfl ?_
  apply vc_run 1000 (stop := false) rfl; simp only [push_cast, reduceIte, Nat.reduceEqDiff, Nat.reduceAdd, Nat.reduceSub, Nat.reduceLT, Int.reduceNeg, Int.reduceLE, Int.reduceLT, Int.reduceToNat, Nat.reduceLeDiff, UInt8.reduceOfNat, UInt8.reduceOfNatLT, and_self, Nat.reduceMul, decide_true, decide_false, Bool.not_true, Bool.not_false, implies_true]
  refine ⟨hl, fun h => ?_⟩
  obtain ⟨a1, a2, a3, a4⟩ := szR_le (of_decide_eq_false h) (by omega)
  refine ⟨⟨a1, a2, hl2⟩, fun h2 => ?_⟩
  obtain ⟨b1, b2, b3, b4⟩ := szR_le (of_decide_eq_false h2) a1
  have k1 : szL szNd a ≤ 1048576 := by omega
  have k2 : szL szNd b ≤ 1048576 := by omega
  rw [eqB_of rfl, eqB_of rfl]
  exact ⟨k1, k2, ⟨k1, k2⟩, k1, k2, ⟨k1, k2⟩, fun h => h.elim, k1, k1, (fun h => by cases h), fun _ => ⟨k2, k2, fun h => by cases h⟩⟩)
end Go.Ab
