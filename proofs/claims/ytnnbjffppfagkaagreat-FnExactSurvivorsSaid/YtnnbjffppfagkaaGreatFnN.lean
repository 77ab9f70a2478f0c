/- How many nodes there are. -/
import Derived.Test.YtnnbjffppfagkaaGreatFnU
set_option linter.all false
set_option linter.unusedSimpArgs false
set_option linter.unusedVariables false
set_option linter.unusedSectionVars false
set_option maxRecDepth 20000
set_option maxHeartbeats 1000000
namespace Go.Ab
open Go Go.Proofs.Tryz
noncomputable def sp_cloneI : Spec := ⟨[.sl .int], [.rd], false, fun
  | [.dat ⟨.int, l⟩] => some (some (l.length ≤ 1073741824), .own true ⟨.int, l⟩, [])
  | _ => none⟩
@[push_cast] theorem sp_cloneI_ps : sp_cloneI.ps = [.sl .int] := rfl
@[push_cast] theorem sp_cloneI_md : sp_cloneI.modes = [.rd] := rfl
@[push_cast] theorem sp_cloneI_pure : sp_cloneI.pure = false := rfl
@[push_cast] theorem sp_cloneI_run (l : List Int) : sp_cloneI.run [.dat ⟨.int, l⟩] = some (some (l.length ≤ 1073741824), .own true ⟨.int, l⟩, []) := rfl
noncomputable def e_cloneI : Env := mk [] [] [(2000000, [.nil .int 2])] [] none
@[push_cast] theorem e_cloneI_in : e_cloneI.inl = inlF [] := rfl
@[push_cast] theorem e_cloneI_fn : e_cloneI.fnd = fndF none := rfl
@[push_cast] theorem e_cloneI_gh : e_cloneI.gh = ghOf [(2000000, [.nil .int 2])] := rfl
@[push_cast] theorem e_cloneI_dr : e_cloneI.dr = drOf [] := rfl
@[push_cast] theorem e_cloneI_td : e_cloneI.td = td := rfl
@[push_cast] theorem e_cloneI_eqt : e_cloneI.eqt = eqt := rfl
@[push_cast] theorem e_cloneI_cal : e_cloneI.cal = calOf [] := rfl
theorem c_cloneI : CRow P0 ety0 113 sp_cloneI := CRow.of (E := e_cloneI) (mkOk (.nil)) func113 rfl rfl rfl (by
  intro args p r outs h hq
  simp only [sp_cloneI] at h; split at h <;> cases h
  rename_i l
  have hz := hq _ rfl
  cases l with
  | nil =>
    refine Body.intro (rs := [.tmp 2]) rfl rfl rfl ?_
    apply vc_run 1000 (stop := false) rfl; simp only [push_cast, reduceIte, Nat.reduceEqDiff, Nat.reduceAdd, Nat.reduceSub, Nat.reduceLT, Int.reduceNeg, Int.reduceLE, Int.reduceLT, Int.reduceToNat, Nat.reduceLeDiff, UInt8.reduceOfNat, UInt8.reduceOfNatLT, and_self, Nat.reduceMul, decide_true, decide_false, Bool.not_true, Bool.not_false, implies_true]
    unfold sizeOk
    omega
  | cons x r =>
    refine Body.intro (rs := [.tmp 2]) rfl rfl rfl ?_
    apply vc_run 1000 (stop := false) rfl; simp only [push_cast, reduceIte, Nat.reduceEqDiff, Nat.reduceAdd, Nat.reduceSub, Nat.reduceLT, Int.reduceNeg, Int.reduceLE, Int.reduceLT, Int.reduceToNat, Nat.reduceLeDiff, UInt8.reduceOfNat, UInt8.reduceOfNatLT, and_self, Nat.reduceMul, decide_true, decide_false, Bool.not_true, Bool.not_false, implies_true]
    refine ⟨fun h => h.elim, ?_⟩
    unfold sizeOk
    simp only [List.length_cons] at hz
    omega)
noncomputable def sp_cnt1 : Spec := ⟨[.st .node, .sl .int, .sc], [.rd, .rd, .io], false, fun
  | [.agg [.int .i64 k, .int .i64 s, .str m, .str t, .dat ⟨.attr, b⟩, .dat ⟨.node, ks⟩], .dat ⟨.int, p⟩, .pb [.int .i64 n]] => some (some (0 ≤ n ∧ n ≤ 1073741000), .tup [], [.pb [.int .i64 (n + 1)]])
  | _ => none⟩
@[push_cast] theorem sp_cnt1_ps : sp_cnt1.ps = [.st .node, .sl .int, .sc] := rfl
@[push_cast] theorem sp_cnt1_md : sp_cnt1.modes = [.rd, .rd, .io] := rfl
@[push_cast] theorem sp_cnt1_pure : sp_cnt1.pure = false := rfl
@[push_cast] theorem sp_cnt1_run (k s : Int) (m t : Str) (b : List Attr) (ks : List Node) (p : List Int) (n : Int) : sp_cnt1.run [.agg [.int .i64 k, .int .i64 s, .str m, .str t, .dat ⟨.attr, b⟩, .dat ⟨.node, ks⟩], .dat ⟨.int, p⟩, .pb [.int .i64 n]] = some (some (0 ≤ n ∧ n ≤ 1073741000), .tup [], [.pb [.int .i64 (n + 1)]]) := rfl
theorem cntNds_append (l r : List Node) : cntNds (l ++ r) = cntNds l + cntNds r := by
  induction l with
  | nil => simp [cntNds]
  | cons x l ih => rw [List.cons_append, cntNds, cntNds, ih]; omega
theorem cntNd_eq (x : Node) : cntNd x = 1 + cntNds x.kids := by cases x; rw [cntNd]; rfl
theorem cntNds_take {l : List Node} {j : Nat} (h : j < l.length) : cntNds (l.take (j + 1)) = cntNds (l.take j) + (1 + cntNds (l.getD j nodeD).kids) := by
  rw [List.take_succ_eq_append_getElem h, cntNds_append]
  have e : l.getD j nodeD = l[j] := by simp [List.getD, h]
  rw [e, cntNds, cntNds, cntNd_eq]; omega
mutual
theorem cntNd_sz : ∀ x : Node, cntNd x ≤ 1 + szNd x
  | .mk k s m t a ks => by
    have := cntNds_sz ks
    rw [cntNd, szNd]; omega
theorem cntNds_sz : ∀ l : List Node, cntNds l ≤ szNds l
  | [] => by simp [cntNds]
  | x :: r => by
    have h1 := cntNd_sz x
    have h2 := cntNds_sz r
    rw [cntNds, szNds]; omega
end
theorem szNds_app (l r : List Node) : szNds (l ++ r) = szNds l + szNds r := by
  induction l with
  | nil => simp [szNds]
  | cons x l ih => rw [List.cons_append, szNds, szNds, ih]; omega
theorem szNds_step {l : List Node} {j : Nat} (h : j < l.length) : szNds (l.take (j + 1)) = szNds (l.take j) + (1 + szNd (l.getD j nodeD)) ∧ szNds (l.take (j + 1)) ≤ szNds l := by
  have e : l.getD j nodeD = l[j] := by simp [List.getD, h]
  constructor
  · rw [List.take_succ_eq_append_getElem h, szNds_app, e, szNds, szNds]; omega
  · have : szNds l = szNds (l.take (j + 1)) + szNds (l.drop (j + 1)) := by rw [← szNds_app, List.take_append_drop]
    omega
theorem szNds_kids (x : Node) : szNds x.kids ≤ szNd x := by
  have := szNd_eq x
  rw [szNds_eq]; omega
noncomputable def sp_countT : Spec := ⟨[.sl .node], [.rd], true, fun
  | [.dat ⟨.node, l⟩] => some (some (szL szNd l ≤ 1048576), .int .i64 (cntNds l), [])
  | _ => none⟩
@[push_cast] theorem sp_countT_ps : sp_countT.ps = [.sl .node] := rfl
@[push_cast] theorem sp_countT_md : sp_countT.modes = [.rd] := rfl
@[push_cast] theorem sp_countT_pure : sp_countT.pure = true := rfl
@[push_cast] theorem sp_countT_run (l : List Node) : sp_countT.run [.dat ⟨.node, l⟩] = some (some (szL szNd l ≤ 1048576), .int .i64 (cntNds l), []) := rfl
noncomputable def sp_cntT (z : Nat) : Spec := ⟨[.sl .node], [.rd], true, fun
  | [.dat ⟨.node, l⟩] => some (some (szNds l < z ∧ szL szNd l ≤ 1048576), .int .i64 (cntNds l), [])
  | _ => none⟩
@[push_cast] theorem sp_cntT_ps (z : Nat) : (sp_cntT z).ps = [.sl .node] := rfl
@[push_cast] theorem sp_cntT_md (z : Nat) : (sp_cntT z).modes = [.rd] := rfl
@[push_cast] theorem sp_cntT_pure (z : Nat) : (sp_cntT z).pure = true := rfl
@[push_cast] theorem sp_cntT_run (z : Nat) (l : List Node) : (sp_cntT z).run [.dat ⟨.node, l⟩] = some (some (szNds l < z ∧ szL szNd l ≤ 1048576), .int .i64 (cntNds l), []) := rfl
end Go.Ab
