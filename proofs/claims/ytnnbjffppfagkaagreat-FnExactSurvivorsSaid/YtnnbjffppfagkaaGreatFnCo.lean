/- Copies of trees. -/
import Derived.Test.YtnnbjffppfagkaaGreatFnT
set_option linter.all false
set_option linter.unusedSimpArgs false
set_option linter.unusedVariables false
set_option linter.unusedSectionVars false
set_option maxRecDepth 20000
set_option maxHeartbeats 1000000
namespace Go.Ab
open Go Go.Proofs.Tryz
noncomputable def sp_cloneA : Spec := ⟨[.sl .attr], [.rd], false, fun
  | [.dat ⟨.attr, l⟩] => some (some (l.length ≤ 1073741824), .own true ⟨.attr, l⟩, [])
  | _ => none⟩
@[push_cast] theorem sp_cloneA_ps : sp_cloneA.ps = [.sl .attr] := rfl
@[push_cast] theorem sp_cloneA_md : sp_cloneA.modes = [.rd] := rfl
@[push_cast] theorem sp_cloneA_pure : sp_cloneA.pure = false := rfl
@[push_cast] theorem sp_cloneA_run (l : List Attr) : sp_cloneA.run [.dat ⟨.attr, l⟩] = some (some (l.length ≤ 1073741824), .own true ⟨.attr, l⟩, []) := rfl
noncomputable def e_cloneA : Env := mk [] [] [(2000000, [.nil .attr 2])] [] none
@[push_cast] theorem e_cloneA_in : e_cloneA.inl = inlF [] := rfl
@[push_cast] theorem e_cloneA_fn : e_cloneA.fnd = fndF none := rfl
@[push_cast] theorem e_cloneA_gh : e_cloneA.gh = ghOf [(2000000, [.nil .attr 2])] := rfl
@[push_cast] theorem e_cloneA_dr : e_cloneA.dr = drOf [] := rfl
@[push_cast] theorem e_cloneA_td : e_cloneA.td = td := rfl
@[push_cast] theorem e_cloneA_eqt : e_cloneA.eqt = eqt := rfl
@[push_cast] theorem e_cloneA_cal : e_cloneA.cal = calOf [] := rfl
theorem c_cloneA : CRow P0 ety0 102 sp_cloneA := CRow.of (E := e_cloneA) (mkOk (.nil)) func102 rfl rfl rfl (by
  intro args p r outs h hq
  simp only [sp_cloneA] at h; split at h <;> cases h
  rename_i l
  have hz := hq _ rfl
  cases l with
  | nil =>
    refine Body.intro (rs := [.tmp 2]) rfl rfl rfl ?_
    apply vc_run 1000 (stop := false) rfl; simp only [push_cast, reduceIte, Nat.reduceEqDiff, Nat.reduceAdd, Nat.reduceSub, Nat.reduceLT, Int.reduceNeg, Int.reduceLE, Int.reduceLT, Int.reduceToNat, Nat.reduceLeDiff, UInt8.reduceOfNat, UInt8.reduceOfNatLT, and_self, Nat.reduceMul, decide_true, decide_false, Bool.not_true, Bool.not_false, implies_true]
    unfold sizeOk
    omega
  | cons x r =>
    refine Body.intro (rs := [.tmp 2]) rfl rfl rfl ?_
    apply vc_run 1000 (stop := false) rfl; simp only [push_cast, reduceIte, Nat.reduceEqDiff, Nat.reduceAdd, Nat.reduceSub, Nat.reduceLT, Int.reduceNeg, Int.reduceLE, Int.reduceLT, Int.reduceToNat, Nat.reduceLeDiff, UInt8.reduceOfNat, UInt8.reduceOfNatLT, and_self, Nat.reduceMul, decide_true, decide_false, Bool.not_true, Bool.not_false, implies_true]
    refine ⟨fun h => h.elim, ?_⟩
    unfold sizeOk
    simp only [List.length_cons] at hz
    omega)
noncomputable def sp_cloNd (z : Nat) : Spec := ⟨[.st .node], [.rd], false, fun
  | [.agg [.int .i64 k, .int .i64 s, .str m, .str t, .dat ⟨.attr, a⟩, .dat ⟨.node, ks⟩]] => some (some (szNds ks < z ∧ szNd (.mk k s m t a ks) ≤ 1048576), .agg [.int .i64 k, .int .i64 s, .str m, .str t, .own true ⟨.attr, a⟩, .own true ⟨.node, ks⟩], [])
  | _ => none⟩
@[push_cast] theorem sp_cloNd_ps (z : Nat) : (sp_cloNd z).ps = [.st .node] := rfl
@[push_cast] theorem sp_cloNd_md (z : Nat) : (sp_cloNd z).modes = [.rd] := rfl
@[push_cast] theorem sp_cloNd_pure (z : Nat) : (sp_cloNd z).pure = false := rfl
@[push_cast] theorem sp_cloNd_run (z : Nat) (k s : Int) (m t : Str) (a : List Attr) (ks : List Node) : (sp_cloNd z).run [.agg [.int .i64 k, .int .i64 s, .str m, .str t, .dat ⟨.attr, a⟩, .dat ⟨.node, ks⟩]] = some (some (szNds ks < z ∧ szNd (.mk k s m t a ks) ≤ 1048576), .agg [.int .i64 k, .int .i64 s, .str m, .str t, .own true ⟨.attr, a⟩, .own true ⟨.node, ks⟩], []) := rfl
noncomputable def sp_cloNds (z : Nat) : Spec := ⟨[.sl .node], [.rd], false, fun
  | [.dat ⟨.node, l⟩] => some (some (szNds l < z ∧ szL szNd l ≤ 1048576), .own true ⟨.node, l⟩, [])
  | _ => none⟩
@[push_cast] theorem sp_cloNds_ps (z : Nat) : (sp_cloNds z).ps = [.sl .node] := rfl
@[push_cast] theorem sp_cloNds_md (z : Nat) : (sp_cloNds z).modes = [.rd] := rfl
@[push_cast] theorem sp_cloNds_pure (z : Nat) : (sp_cloNds z).pure = false := rfl
@[push_cast] theorem sp_cloNds_run (z : Nat) (l : List Node) : (sp_cloNds z).run [.dat ⟨.node, l⟩] = some (some (szNds l < z ∧ szL szNd l ≤ 1048576), .own true ⟨.node, l⟩, []) := rfl
noncomputable def e_cloned_ (z : Nat) : Env := mk [(102, sp_cloneA), (103, (sp_cloNds z))] [(1, [10, 13, 15], [[1, 2], [1, 2], [1, 2], [1, 2], [1, 2], [1, 2], [1, 2], [1, 2], [], [], [], [0], [0]])] [] [] none
@[push_cast] theorem e_cloned__in (z : Nat) : (e_cloned_ z).inl = inlF [] := rfl
@[push_cast] theorem e_cloned__fn (z : Nat) : (e_cloned_ z).fnd = fndF none := rfl
@[push_cast] theorem e_cloned__gh (z : Nat) : (e_cloned_ z).gh = ghOf [] := rfl
@[push_cast] theorem e_cloned__dr (z : Nat) : (e_cloned_ z).dr = drOf [(1, [10, 13, 15], [[1, 2], [1, 2], [1, 2], [1, 2], [1, 2], [1, 2], [1, 2], [1, 2], [], [], [], [0], [0]])] := rfl
@[push_cast] theorem e_cloned__td (z : Nat) : (e_cloned_ z).td = td := rfl
@[push_cast] theorem e_cloned__eqt (z : Nat) : (e_cloned_ z).eqt = eqt := rfl
@[push_cast] theorem e_cloned__cal (z : Nat) : (e_cloned_ z).cal = calOf [(102, sp_cloneA), (103, (sp_cloNds z))] := rfl
theorem c_cloned_ (z : Nat) (h_cloNds : CRow P0 ety0 103 (sp_cloNds z)) : CRow P0 ety0 65 (sp_cloNd z) := CRow.of (E := (e_cloned_ z)) (mkOk (.cons c_cloneA (.cons h_cloNds (.nil)))) func65 rfl rfl rfl (by
  intro args p r outs h hq
  simp only [sp_cloNd] at h; split at h <;> cases h
  rename_i k s m t a ks
  obtain ⟨hz, hs⟩ := hq _ rfl
  rw [szNd_mk] at hs
  have ha := szL_len szAt a
  refine Body.intro (rs := [.cell 2 59]) rfl rfl rfl ?_
  apply vc_run 1000 (stop := false) rfl; simp only [push_cast, reduceIte, Nat.reduceEqDiff, Nat.reduceAdd, Nat.reduceSub, Nat.reduceLT, Int.reduceNeg, Int.reduceLE, Int.reduceLT, Int.reduceToNat, Nat.reduceLeDiff, UInt8.reduceOfNat, UInt8.reduceOfNatLT, and_self, Nat.reduceMul, decide_true, decide_false, Bool.not_true, Bool.not_false, implies_true]
  exact ⟨by omega, hz, by omega⟩)
noncomputable def e_cloneds_ (z : Nat) : Env := mk [(65, (sp_cloNd z))] [] [] [] none
@[push_cast] theorem e_cloneds__in (z : Nat) : (e_cloneds_ z).inl = inlF [] := rfl
@[push_cast] theorem e_cloneds__fn (z : Nat) : (e_cloneds_ z).fnd = fndF none := rfl
@[push_cast] theorem e_cloneds__gh (z : Nat) : (e_cloneds_ z).gh = ghOf [] := rfl
@[push_cast] theorem e_cloneds__dr (z : Nat) : (e_cloneds_ z).dr = drOf [] := rfl
@[push_cast] theorem e_cloneds__td (z : Nat) : (e_cloneds_ z).td = td := rfl
@[push_cast] theorem e_cloneds__eqt (z : Nat) : (e_cloneds_ z).eqt = eqt := rfl
@[push_cast] theorem e_cloneds__cal (z : Nat) : (e_cloneds_ z).cal = calOf [(65, (sp_cloNd z))] := rfl
theorem c_cloneds_ (z : Nat) (h_cloNd : CRow P0 ety0 65 (sp_cloNd z)) : CRow P0 ety0 103 (sp_cloNds (z+1)) := CRow.of (E := (e_cloneds_ z)) (mkOk (.cons h_cloNd (.nil))) func103 rfl rfl rfl (by
  intro args p r outs h hq
  simp only [sp_cloNds] at h; split at h <;> cases h
  rename_i l
  obtain ⟨hn, hz⟩ := hq _ rfl
  have hl := szL_len szNd l
  refine Body.intro (rs := [.tmp 2]) rfl rfl rfl ?_
  apply vc_run 1000 (stop := false) rfl; simp only [push_cast, reduceIte, Nat.reduceEqDiff, Nat.reduceAdd, Nat.reduceSub, Nat.reduceLT, Int.reduceNeg, Int.reduceLE, Int.reduceLT, Int.reduceToNat, Nat.reduceLeDiff, UInt8.reduceOfNat, UInt8.reduceOfNatLT, and_self, Nat.reduceMul, decide_true, decide_false, Bool.not_true, Bool.not_false, implies_true]
  refine Run.loop [3, 9] [7, 8] [] rfl (fun n vs bs => ∃ j : Nat, vs = [.own true ⟨.node, l.take j⟩, .int .i64 j] ∧ bs = [] ∧ j ≤ l.length ∧ n = l.length - j) l.length ?_ ?_
  · simp only [push_cast, reduceIte, Nat.reduceEqDiff, Nat.reduceAdd, Nat.reduceSub, Nat.reduceLT, Int.reduceNeg, Int.reduceLE, Int.reduceLT, Int.reduceToNat, Nat.reduceLeDiff, UInt8.reduceOfNat, UInt8.reduceOfNatLT, and_self, Nat.reduceMul, decide_true, decide_false, Bool.not_true, Bool.not_false, implies_true]
    exact ⟨0, rfl, by omega, by omega⟩
  rintro n vs bs ⟨j, rfl, rfl, hj, rfl⟩
  simp only [push_cast, reduceIte, Nat.reduceEqDiff, Nat.reduceAdd, Nat.reduceSub, Nat.reduceLT, Int.reduceNeg, Int.reduceLE, Int.reduceLT, Int.reduceToNat, Nat.reduceLeDiff, UInt8.reduceOfNat, UInt8.reduceOfNatLT, and_self, Nat.reduceMul, decide_true, decide_false, Bool.not_true, Bool.not_false, implies_true]
  apply vc_run 1000 (stop := false) rfl; simp only [push_cast, reduceIte, Nat.reduceEqDiff, Nat.reduceAdd, Nat.reduceSub, Nat.reduceLT, Int.reduceNeg, Int.reduceLE, Int.reduceLT, Int.reduceToNat, Nat.reduceLeDiff, UInt8.reduceOfNat, UInt8.reduceOfNatLT, and_self, Nat.reduceMul, decide_true, decide_false, Bool.not_true, Bool.not_false, implies_true]
  refine ⟨fun hlt => ?_, fun hge => ?_⟩
  · have hlt : j < l.length := Int.ofNat_lt.1 (of_decide_eq_true hlt)
    have hel := szL_at szNd nodeD hlt
    simp only [gd_nat]
    refine ⟨by omega, ⟨kid_lt hn hlt, by omega⟩, by unfold sizeOk; rw [List.length_take]; omega, by constructor <;> omega, _, by omega, j + 1, ?_, by omega, rfl⟩
    rw [List.take_succ_eq_append_getElem hlt]
    have e : l.getD j nodeD = l[j] := by simp [List.getD, hlt]
    rw [e]; rfl
  · have hge : j = l.length := by have := of_decide_eq_false hge; omega
    subst hge
    rw [List.take_length])
noncomputable def sp_cloned : Spec := ⟨[.st .node], [.rd], false, fun
  | [.agg [.int .i64 k, .int .i64 s, .str m, .str t, .dat ⟨.attr, a⟩, .dat ⟨.node, ks⟩]] => some (some (szNd (.mk k s m t a ks) ≤ 1048576), .agg [.int .i64 k, .int .i64 s, .str m, .str t, .own true ⟨.attr, a⟩, .own true ⟨.node, ks⟩], [])
  | _ => none⟩
@[push_cast] theorem sp_cloned_ps : sp_cloned.ps = [.st .node] := rfl
@[push_cast] theorem sp_cloned_md : sp_cloned.modes = [.rd] := rfl
@[push_cast] theorem sp_cloned_pure : sp_cloned.pure = false := rfl
@[push_cast] theorem sp_cloned_run (k s : Int) (m t : Str) (a : List Attr) (ks : List Node) : sp_cloned.run [.agg [.int .i64 k, .int .i64 s, .str m, .str t, .dat ⟨.attr, a⟩, .dat ⟨.node, ks⟩]] = some (some (szNd (.mk k s m t a ks) ≤ 1048576), .agg [.int .i64 k, .int .i64 s, .str m, .str t, .own true ⟨.attr, a⟩, .own true ⟨.node, ks⟩], []) := rfl
theorem r_cloNds : ∀ z, CRow P0 ety0 103 (sp_cloNds z)
  | 0 => .absurd (fun args p r outs h hq => by
      simp only [sp_cloNds] at h; split at h <;> cases h
      exact absurd (hq _ rfl).1 (Nat.not_lt_zero _)) (ent_of func103 rfl rfl)
  | z + 1 => c_cloneds_ z (c_cloned_ z (r_cloNds z))
theorem c_cloned : CRow P0 ety0 65 sp_cloned := .all (spn := sp_cloNd) (fun _ => rfl) (fun z => c_cloned_ z (r_cloNds z)) (fun args p r outs h hq => by
  simp only [sp_cloned] at h; split at h <;> cases h
  rename_i k s m t a ks
  exact ⟨szNds ks + 1, _, rfl, fun q hq' => by cases hq'; exact ⟨Nat.lt_succ_self _, hq _ rfl⟩⟩)
noncomputable def sp_clonedT : Spec := ⟨[.sl .node], [.rd], false, fun
  | [.dat ⟨.node, l⟩] => some (some (szL szNd l ≤ 1048576), .own true ⟨.node, l⟩, [])
  | _ => none⟩
@[push_cast] theorem sp_clonedT_ps : sp_clonedT.ps = [.sl .node] := rfl
@[push_cast] theorem sp_clonedT_md : sp_clonedT.modes = [.rd] := rfl
@[push_cast] theorem sp_clonedT_pure : sp_clonedT.pure = false := rfl
@[push_cast] theorem sp_clonedT_run (l : List Node) : sp_clonedT.run [.dat ⟨.node, l⟩] = some (some (szL szNd l ≤ 1048576), .own true ⟨.node, l⟩, []) := rfl
theorem c_clonedT : CRow P0 ety0 103 sp_clonedT := .all (spn := sp_cloNds) (fun _ => rfl) r_cloNds (fun args p r outs h hq => by
  simp only [sp_clonedT] at h; split at h <;> cases h
  rename_i l
  exact ⟨szNds l + 1, _, rfl, fun q hq' => by cases hq'; exact ⟨Nat.lt_succ_self _, hq _ rfl⟩⟩)
noncomputable def sp_cpNds (z : Nat) : Spec := ⟨[.sl .node], [.rd], false, fun
  | [.dat ⟨.node, l⟩] => some (some (szNds l < z ∧ szL szNd l ≤ 1048576), .own true ⟨.node, l⟩, [])
  | _ => none⟩
@[push_cast] theorem sp_cpNds_ps (z : Nat) : (sp_cpNds z).ps = [.sl .node] := rfl
@[push_cast] theorem sp_cpNds_md (z : Nat) : (sp_cpNds z).modes = [.rd] := rfl
@[push_cast] theorem sp_cpNds_pure (z : Nat) : (sp_cpNds z).pure = false := rfl
@[push_cast] theorem sp_cpNds_run (z : Nat) (l : List Node) : (sp_cpNds z).run [.dat ⟨.node, l⟩] = some (some (szNds l < z ∧ szL szNd l ≤ 1048576), .own true ⟨.node, l⟩, []) := rfl
end Go.Ab
