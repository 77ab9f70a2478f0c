/- Edits: the law of InsertAt. -/
import Derived.Test.YtondigjbmieekaaFnIp
import Derived.Test.YtondigjbmieekaaFnMm
set_option linter.all false
set_option linter.unusedSimpArgs false
set_option linter.unusedVariables false
set_option linter.unusedSectionVars false
set_option maxRecDepth 20000
set_option maxHeartbeats 1000000
namespace Go.Ab
open Go Go.Proofs.Try
theorem inR_sz {l : List Node} {p : List Int} {x : Node} : szL szNd (inR l p x) ≤ 108300 := by
  unfold inR
  by_cases h : inC l p x = 0
  · rw [decide_eq_true h, cond_true]
    unfold inC at h
    by_cases hE : askE l p = 0
    · rw [decide_eq_true hE] at h
      have h : iaC l p x = 0 := h
      unfold iaC at h
      cases hx : treeOK [x] with
      | false => rw [hx] at h; cases h
      | true =>
        rw [hx] at h
        have h : (bif !decide (plC l p = 0) then 16 else doneC (insT l p x)) = 0 := h
        by_cases hp : plC l p = 0
        · exact insT_sz (askT_0 (askE_0 hE).2).2 hx hp
        · rw [decide_eq_false hp] at h; cases h
    · rw [decide_eq_false hE] at h; exact absurd h hE
  · rw [decide_eq_false h, cond_false]; simp [szL, sumL]
noncomputable def sp_szNode1 : Spec := ⟨[.st .node, .sc], [.rd, .rd], true, fun
  | [.agg [.int .i64 k, .int .i64 s, .str m, .str t, .dat ⟨.attr, a⟩, .dat ⟨.node, ks⟩], .int .i64 n] => some (some (0 ≤ n ∧ n ≤ 1048576 ∧ fitNd (.mk k s m t a ks)), .int .i64 (szR (szNd (.mk k s m t a ks)) n), [])
  | _ => none⟩
@[push_cast] theorem sp_szNode1_ps : sp_szNode1.ps = [.st .node, .sc] := rfl
@[push_cast] theorem sp_szNode1_md : sp_szNode1.modes = [.rd, .rd] := rfl
@[push_cast] theorem sp_szNode1_pure : sp_szNode1.pure = true := rfl
@[push_cast] theorem sp_szNode1_run (k s : Int) (m t : Str) (a : List Attr) (ks : List Node) (n : Int) : sp_szNode1.run [.agg [.int .i64 k, .int .i64 s, .str m, .str t, .dat ⟨.attr, a⟩, .dat ⟨.node, ks⟩], .int .i64 n] = some (some (0 ≤ n ∧ n ≤ 1048576 ∧ fitNd (.mk k s m t a ks)), .int .i64 (szR (szNd (.mk k s m t a ks)) n), []) := rfl
theorem c_szNode1 : CRow P0 ety0 36 sp_szNode1 := .all (spn := sp_szNd) (fun _ => rfl) (fun z => c_szNode z (r_szNds z)) (fun args p r outs h hq => by
  simp only [sp_szNode1] at h; split at h <;> cases h
  rename_i k s m t a ks n
  exact ⟨szNds ks + 1, _, rfl, fun q hq' => by cases hq'; exact ⟨Nat.lt_succ_self _, hq _ rfl⟩⟩)
noncomputable def sp_toNode1 : Spec := ⟨[.st .node], [.rd], false, fun
  | [.agg [.int .i64 k, .int .i64 s, .str m, .str t, .dat ⟨.attr, a⟩, .dat ⟨.node, ks⟩]] => some (some (szNd (.mk k s m t a ks) ≤ 1048576), .agg [.int .i64 k, .int .i64 s, .str m, .str t, .own true ⟨.attr, a⟩, .own true ⟨.node, ks⟩], [])
  | _ => none⟩
@[push_cast] theorem sp_toNode1_ps : sp_toNode1.ps = [.st .node] := rfl
@[push_cast] theorem sp_toNode1_md : sp_toNode1.modes = [.rd] := rfl
@[push_cast] theorem sp_toNode1_pure : sp_toNode1.pure = false := rfl
@[push_cast] theorem sp_toNode1_run (k s : Int) (m t : Str) (a : List Attr) (ks : List Node) : sp_toNode1.run [.agg [.int .i64 k, .int .i64 s, .str m, .str t, .dat ⟨.attr, a⟩, .dat ⟨.node, ks⟩]] = some (some (szNd (.mk k s m t a ks) ≤ 1048576), .agg [.int .i64 k, .int .i64 s, .str m, .str t, .own true ⟨.attr, a⟩, .own true ⟨.node, ks⟩], []) := rfl
theorem c_toNode1 : CRow P0 ety0 38 sp_toNode1 := .all (spn := sp_toNd) (fun _ => rfl) (fun z => c_toNode z (r_toNds z)) (fun args p r outs h hq => by
  simp only [sp_toNode1] at h; split at h <;> cases h
  rename_i k s m t a ks
  exact ⟨szNds ks + 1, _, rfl, fun q hq' => by cases hq'; exact ⟨Nat.lt_succ_self _, hq _ rfl⟩⟩)
noncomputable def sp_eqNode1 : Spec := ⟨[.st .node, .st .node], [.rd, .rd], true, fun
  | [.agg [.int .i64 k, .int .i64 s, .str m, .str t, .dat ⟨.attr, a⟩, .dat ⟨.node, ks⟩], .agg [.int .i64 k2, .int .i64 s2, .str m2, .str t2, .dat ⟨.attr, a2⟩, .dat ⟨.node, ks2⟩]] => some (some (szNd (.mk k s m t a ks) ≤ 1048576), .bool (eqB (Node.mk k s m t a ks) (Node.mk k2 s2 m2 t2 a2 ks2)), [])
  | _ => none⟩
@[push_cast] theorem sp_eqNode1_ps : sp_eqNode1.ps = [.st .node, .st .node] := rfl
@[push_cast] theorem sp_eqNode1_md : sp_eqNode1.modes = [.rd, .rd] := rfl
@[push_cast] theorem sp_eqNode1_pure : sp_eqNode1.pure = true := rfl
@[push_cast] theorem sp_eqNode1_run (k s k2 s2 : Int) (m t m2 t2 : Str) (a a2 : List Attr) (ks ks2 : List Node) : sp_eqNode1.run [.agg [.int .i64 k, .int .i64 s, .str m, .str t, .dat ⟨.attr, a⟩, .dat ⟨.node, ks⟩], .agg [.int .i64 k2, .int .i64 s2, .str m2, .str t2, .dat ⟨.attr, a2⟩, .dat ⟨.node, ks2⟩]] = some (some (szNd (.mk k s m t a ks) ≤ 1048576), .bool (eqB (Node.mk k s m t a ks) (Node.mk k2 s2 m2 t2 a2 ks2)), []) := rfl
theorem c_eqNode1 : CRow P0 ety0 40 sp_eqNode1 := .all (spn := sp_eqNd) (fun _ => rfl) (fun z => c_eqNode z (r_eqNds z)) (fun args p r outs h hq => by
  simp only [sp_eqNode1] at h; split at h <;> cases h
  rename_i k s m t a ks k2 s2 m2 t2 a2 ks2
  exact ⟨szNds ks + 1, _, rfl, fun q hq' => by cases hq'; exact ⟨Nat.lt_succ_self _, hq _ rfl⟩⟩)
noncomputable def sp_mkNode1 : Spec := ⟨[.st .node, .sc], [.io, .rd], false, fun
  | [.agg [.int .i64 k, .int .i64 s, .str m, .str t, .own true ⟨.attr, a⟩, .own true ⟨.node, ks⟩], .int .i64 n] => some (some (0 ≤ n ∧ n + (sumL two2 a + sumL cNd ks) ≤ 1073741824), .int .i64 (n + sumL two2 a + sumL cNd ks), [.agg [.int .i64 k, .int .i64 s, .str m, .str t, .own true ⟨.attr, mkL mkAt two2 a n⟩, .own true ⟨.node, mkL mkNd cNd ks (n + sumL two2 a)⟩]])
  | _ => none⟩
@[push_cast] theorem sp_mkNode1_ps : sp_mkNode1.ps = [.st .node, .sc] := rfl
@[push_cast] theorem sp_mkNode1_md : sp_mkNode1.modes = [.io, .rd] := rfl
@[push_cast] theorem sp_mkNode1_pure : sp_mkNode1.pure = false := rfl
@[push_cast] theorem sp_mkNode1_run (k s : Int) (m t : Str) (a : List Attr) (ks : List Node) (n : Int) : sp_mkNode1.run [.agg [.int .i64 k, .int .i64 s, .str m, .str t, .own true ⟨.attr, a⟩, .own true ⟨.node, ks⟩], .int .i64 n] = some (some (0 ≤ n ∧ n + (sumL two2 a + sumL cNd ks) ≤ 1073741824), .int .i64 (n + sumL two2 a + sumL cNd ks), [.agg [.int .i64 k, .int .i64 s, .str m, .str t, .own true ⟨.attr, mkL mkAt two2 a n⟩, .own true ⟨.node, mkL mkNd cNd ks (n + sumL two2 a)⟩]]) := rfl
noncomputable def e_markNode1 : Env := mk [(59, sp_mkAts), (23, sp_mkNodes)] [] [] [] none
@[push_cast] theorem e_markNode1_in : e_markNode1.inl = inlF [] := rfl
@[push_cast] theorem e_markNode1_fn : e_markNode1.fnd = fndF none := rfl
@[push_cast] theorem e_markNode1_gh : e_markNode1.gh = ghOf [] := rfl
@[push_cast] theorem e_markNode1_dr : e_markNode1.dr = drOf [] := rfl
@[push_cast] theorem e_markNode1_td : e_markNode1.td = td := rfl
@[push_cast] theorem e_markNode1_eqt : e_markNode1.eqt = eqt := rfl
@[push_cast] theorem e_markNode1_cal : e_markNode1.cal = calOf [(59, sp_mkAts), (23, sp_mkNodes)] := rfl
theorem c_markNode1 : CRow P0 ety0 41 sp_mkNode1 := CRow.of (E := e_markNode1) (mkOk (.cons c_mkAts (.cons c_mkNodes (.nil)))) func41 rfl rfl rfl (by
  intro args p r outs h hq
  simp only [sp_mkNode1] at h; split at h <;> cases h
  rename_i k s m t a ks n
  obtain ⟨h0, h1⟩ := hq _ rfl
  refine Body.intro (rs := [.tmp 4]) rfl rfl rfl ?_
  apply vc_run 1000 (stop := false) rfl; simp only [push_cast, reduceIte, Nat.reduceEqDiff, Nat.reduceAdd, Nat.reduceSub, Nat.reduceLT, Int.reduceNeg, Int.reduceLE, Int.reduceLT, Int.reduceToNat, Nat.reduceLeDiff, UInt8.reduceOfNat, UInt8.reduceOfNatLT, and_self, Nat.reduceMul, decide_true, decide_false, Bool.not_true, Bool.not_false, implies_true]
  exact ⟨⟨h0, by omega⟩, by omega, by omega⟩)
noncomputable def sp_lawInsertAt : Spec := ⟨[.sl .node, .sl .int, .st .node], [.rd, .rd, .rd], true, fun
  | [.dat ⟨.node, l⟩, .dat ⟨.int, p⟩, .agg [.int .i64 k, .int .i64 s, .str m, .str t, .dat ⟨.attr, a⟩, .dat ⟨.node, ks⟩]] => some (some (fitL fitNd l ∧ p.length ≤ 9223372036854775807 ∧ fitNd (.mk k s m t a ks)), .bool true, [])
  | _ => none⟩
@[push_cast] theorem sp_lawInsertAt_ps : sp_lawInsertAt.ps = [.sl .node, .sl .int, .st .node] := rfl
@[push_cast] theorem sp_lawInsertAt_md : sp_lawInsertAt.modes = [.rd, .rd, .rd] := rfl
@[push_cast] theorem sp_lawInsertAt_pure : sp_lawInsertAt.pure = true := rfl
@[push_cast] theorem sp_lawInsertAt_run (l : List Node) (p : List Int) (k s : Int) (m t : Str) (a : List Attr) (ks : List Node) : sp_lawInsertAt.run [.dat ⟨.node, l⟩, .dat ⟨.int, p⟩, .agg [.int .i64 k, .int .i64 s, .str m, .str t, .dat ⟨.attr, a⟩, .dat ⟨.node, ks⟩]] = some (some (fitL fitNd l ∧ p.length ≤ 9223372036854775807 ∧ fitNd (.mk k s m t a ks)), .bool true, []) := rfl
noncomputable def e_lawInsertAt : Env := mk [(17, sp_szNodeS), (36, sp_szNode1), (19, sp_toNodeS), (38, sp_toNode1), (28, sp_toIntS), (22, sp_eqNodeS), (40, sp_eqNode1), (31, sp_eqIntS), (23, sp_mkNodes), (41, sp_mkNode1), (32, sp_mkInts), (33, sp_hdNodes), (39, sp_InA), (37, sp_InA)] [(10, [1, 3, 5, 6], [[], [], [0], [], [0, 1]]), (21, [2], [[1]]), (37, [1, 3, 5, 6], [[], [], [0], [], [0, 1]])] [] [] none
@[push_cast] theorem e_lawInsertAt_in : e_lawInsertAt.inl = inlF [] := rfl
@[push_cast] theorem e_lawInsertAt_fn : e_lawInsertAt.fnd = fndF none := rfl
@[push_cast] theorem e_lawInsertAt_gh : e_lawInsertAt.gh = ghOf [] := rfl
@[push_cast] theorem e_lawInsertAt_dr : e_lawInsertAt.dr = drOf [(10, [1, 3, 5, 6], [[], [], [0], [], [0, 1]]), (21, [2], [[1]]), (37, [1, 3, 5, 6], [[], [], [0], [], [0, 1]])] := rfl
@[push_cast] theorem e_lawInsertAt_td : e_lawInsertAt.td = td := rfl
@[push_cast] theorem e_lawInsertAt_eqt : e_lawInsertAt.eqt = eqt := rfl
@[push_cast] theorem e_lawInsertAt_cal : e_lawInsertAt.cal = calOf [(17, sp_szNodeS), (36, sp_szNode1), (19, sp_toNodeS), (38, sp_toNode1), (28, sp_toIntS), (22, sp_eqNodeS), (40, sp_eqNode1), (31, sp_eqIntS), (23, sp_mkNodes), (41, sp_mkNode1), (32, sp_mkInts), (33, sp_hdNodes), (39, sp_InA), (37, sp_InA)] := rfl
theorem c_lawInsertAt : CRow P0 ety0 7 sp_lawInsertAt := CRow.of (E := e_lawInsertAt) (mkOk (.cons c_szNodeS (.cons c_szNode1 (.cons c_toNodeS (.cons c_toNode1 (.cons c_toIntS (.cons c_eqNodeS (.cons c_eqNode1 (.cons c_eqIntS (.cons c_mkNodes (.cons c_markNode1 (.cons c_mkInts (.cons c_hdNodes (.cons c_InsertAt (.cons c_InsertAt2 (.nil)))))))))))))))) func7 rfl rfl rfl (by
  intro args p r outs h hq
  simp only [sp_lawInsertAt] at h; split at h <;> cases h
  rename_i l p k s m t a ks
  obtain ⟨hl, hp, hf⟩ := hq _ rfl
  refine Body.intro (rs := [.tmp 6]) rfl rfl rfl ?_
  apply vc_run 1000 (stop := false) rfl; simp only [push_cast, reduceIte, Nat.reduceEqDiff, Nat.reduceAdd, Nat.reduceSub, Nat.reduceLT, Int.reduceNeg, Int.reduceLE, Int.reduceLT, Int.reduceToNat, Nat.reduceLeDiff, UInt8.reduceOfNat, UInt8.reduceOfNatLT, and_self, Nat.reduceMul, decide_true, decide_false, Bool.not_true, Bool.not_false, implies_true]
  intro hpl
  have hpl : p.length ≤ 1048576 := by have := of_decide_eq_false hpl; omega
  refine ⟨hl, fun h => ?_⟩
  obtain ⟨a1, a2, a3, a4⟩ := szR_le (of_decide_eq_false h) (by omega)
  refine ⟨⟨a1, a2, hf⟩, fun h2 => ?_⟩
  obtain ⟨b1, b2, b3, b4⟩ := szR_le (of_decide_eq_false h2) a1
  have k1 : szL szNd l ≤ 1048576 := by omega
  have k2 : szNd (.mk k s m t a ks) ≤ 1048576 := by omega
  have k3 := inR_sz (l := l) (p := p) (x := .mk k s m t a ks)
  have k4 := sumNdz l
  have k5 := sumNdz (inR l p (.mk k s m t a ks))
  have k6 := sumI_len p
  have k7 := sumNdz [.mk k s m t a ks]
  have k8 : sumL cNd [.mk k s m t a ks] = 4 + (sumL two2 (Node.mk k s m t a ks).attrs + sumL cNd (Node.mk k s m t a ks).kids) := by
    have e : sumL cNd [.mk k s m t a ks] = cNd (.mk k s m t a ks) := by simp [sumL]
    rw [e, cNd_eq]
    omega
  rw [sz_one] at k7
  simp only [eqB_self, sz0, Bool.not_true, cond_true, cond_false, decide_true, forall_const, reduceCtorEq, false_implies, implies_true, true_and, and_true]
  clear hq h h2 a1 a2 a3 a4 b1 b2 b3 b4
  generalize inR l p (.mk k s m t a ks) = R at *
  generalize (Node.mk k s m t a ks).attrs = A at *
  generalize (Node.mk k s m t a ks).kids = B at *
  have n1 : decide ((1 : Int) + (sumL cNd l : Nat) + (sumL oneI p : Nat) + (sumL two2 A : Nat) + (sumL cNd B : Nat) < 0) = false := decide_eq_false (by omega)
  have n2 : decide ((1 : Int) + (sumL cNd R : Nat) < 0) = false := decide_eq_false (by omega)
  have n3 := mkdNds R 1
  simp only [sumNds, n1, n2, n3, cond_false, decide_true, Bool.not_true, reduceCtorEq, false_implies, implies_true, forall_const, and_true, true_and]
  have n4 : szL szNd R ≤ 1048576 := by omega
  have n5 : (1 : Int) + (sumL cNd l : Nat) ≤ 1073741824 := by omega
  have n6 : (0 : Int) ≤ 1 + (sumL cNd l : Nat) ∧ (1 : Int) + (sumL cNd l : Nat) + (sumL oneI p : Nat) ≤ 1073741824 := by omega
  have n7 : (1 : Int) + (sumL cNd R : Nat) ≤ 1073741824 := by omega
  have n8 : (0 : Int) ≤ 1 + (sumL cNd l : Nat) + (sumL oneI p : Nat) ∧ (1 : Int) + (sumL cNd l : Nat) + (sumL oneI p : Nat) + ((sumL two2 A : Nat) + (sumL cNd B : Nat)) ≤ 1073741824 := by omega
  simp only [k1, k2, hpl, n4, n5, n6, n7, n8, and_self])
end Go.Ab
