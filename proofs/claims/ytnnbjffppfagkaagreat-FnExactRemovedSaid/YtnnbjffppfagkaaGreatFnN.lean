/- How many nodes there are. -/
import Derived.Test.YtnnbjffppfagkaaGreatFnU
set_option linter.all false
set_option linter.unusedSimpArgs false
set_option linter.unusedVariables false
set_option linter.unusedSectionVars false
set_option maxRecDepth 20000
set_option maxHeartbeats 1000000
namespace Go.Ab
open Go Go.Proofs.Tryz
noncomputable def sp_cloneI : Spec := ⟨[.sl .int], [.rd], false, fun
  | [.dat ⟨.int, l⟩] => some (some (l.length ≤ 1073741824), .own true ⟨.int, l⟩, [])
  | _ => none⟩
@[push_cast] theorem sp_cloneI_ps : sp_cloneI.ps = [.sl .int] := rfl
@[push_cast] theorem sp_cloneI_md : sp_cloneI.modes = [.rd] := rfl
@[push_cast] theorem sp_cloneI_pure : sp_cloneI.pure = false := rfl
@[push_cast] theorem sp_cloneI_run (l : List Int) : sp_cloneI.run [.dat ⟨.int, l⟩] = some (some (l.length ≤ 1073741824), .own true ⟨.int, l⟩, []) := rfl
noncomputable def e_cloneI : Env := mk [] [] [(2000000, [.nil .int 2])] [] none
@[push_cast] theorem e_cloneI_in : e_cloneI.inl = inlF [] := rfl
@[push_cast] theorem e_cloneI_fn : e_cloneI.fnd = fndF none := rfl
@[push_cast] theorem e_cloneI_gh : e_cloneI.gh = ghOf [(2000000, [.nil .int 2])] := rfl
@[push_cast] theorem e_cloneI_dr : e_cloneI.dr = drOf [] := rfl
@[push_cast] theorem e_cloneI_td : e_cloneI.td = td := rfl
@[push_cast] theorem e_cloneI_eqt : e_cloneI.eqt = eqt := rfl
@[push_cast] theorem e_cloneI_cal : e_cloneI.cal = calOf [] := rfl
theorem c_cloneI : CRow P0 ety0 113 sp_cloneI := CRow.of (E := e_cloneI) (mkOk (.nil)) func113 rfl rfl rfl (by
  intro args p r outs h hq
  simp only [sp_cloneI] at h; split at h <;> cases h
  rename_i l
  have hz := hq _ rfl
  cases l with
  | nil =>
    refine Body.intro (rs := [.tmp 2]) rfl rfl rfl ?_
    apply vc_run 1000 (stop := false) rfl; simp only [push_cast, reduceIte, Nat.reduceEqDiff, Nat.reduceAdd, Nat.reduceSub, Nat.reduceLT, Int.reduceNeg, Int.reduceLE, Int.reduceLT, Int.reduceToNat, Nat.reduceLeDiff, UInt8.reduceOfNat, UInt8.reduceOfNatLT, and_self, Nat.reduceMul, decide_true, decide_false, Bool.not_true, Bool.not_false, implies_true]
    unfold sizeOk
    omega
  | cons x r =>
    refine Body.intro (rs := [.tmp 2]) rfl rfl rfl ?_
    apply vc_run 1000 (stop := false) rfl; simp only [push_cast, reduceIte, Nat.reduceEqDiff, Nat.reduceAdd, Nat.reduceSub, Nat.reduceLT, Int.reduceNeg, Int.reduceLE, Int.reduceLT, Int.reduceToNat, Nat.reduceLeDiff, UInt8.reduceOfNat, UInt8.reduceOfNatLT, and_self, Nat.reduceMul, decide_true, decide_false, Bool.not_true, Bool.not_false, implies_true]
    refine ⟨fun h => h.elim, ?_⟩
    unfold sizeOk
    simp only [List.length_cons] at hz
    omega)
noncomputable def sp_cnt1 : Spec := ⟨[.st .node, .sl .int, .sc], [.rd, .rd, .io], false, fun
  | [.agg [.int .i64 k, .int .i64 s, .str m, .str t, .dat ⟨.attr, b⟩, .dat ⟨.node, ks⟩], .dat ⟨.int, p⟩, .pb [.int .i64 n]] => some (some (0 ≤ n ∧ n ≤ 1073741000), .tup [], [.pb [.int .i64 (n + 1)]])
  | _ => none⟩
@[push_cast] theorem sp_cnt1_ps : sp_cnt1.ps = [.st .node, .sl .int, .sc] := rfl
@[push_cast] theorem sp_cnt1_md : sp_cnt1.modes = [.rd, .rd, .io] := rfl
@[push_cast] theorem sp_cnt1_pure : sp_cnt1.pure = false := rfl
@[push_cast] theorem sp_cnt1_run (k s : Int) (m t : Str) (b : List Attr) (ks : List Node) (p : List Int) (n : Int) : sp_cnt1.run [.agg [.int .i64 k, .int .i64 s, .str m, .str t, .dat ⟨.attr, b⟩, .dat ⟨.node, ks⟩], .dat ⟨.int, p⟩, .pb [.int .i64 n]] = some (some (0 ≤ n ∧ n ≤ 1073741000), .tup [], [.pb [.int .i64 (n + 1)]]) := rfl
noncomputable def e_cnt1 : Env := mk [] [] [] [] none
@[push_cast] theorem e_cnt1_in : e_cnt1.inl = inlF [] := rfl
@[push_cast] theorem e_cnt1_fn : e_cnt1.fnd = fndF none := rfl
@[push_cast] theorem e_cnt1_gh : e_cnt1.gh = ghOf [] := rfl
@[push_cast] theorem e_cnt1_dr : e_cnt1.dr = drOf [] := rfl
@[push_cast] theorem e_cnt1_td : e_cnt1.td = td := rfl
@[push_cast] theorem e_cnt1_eqt : e_cnt1.eqt = eqt := rfl
@[push_cast] theorem e_cnt1_cal : e_cnt1.cal = calOf [] := rfl
theorem c_cnt1 : CRow P0 ety0 76 sp_cnt1 := CRow.of (E := e_cnt1) (mkOk (.nil)) func76 rfl rfl rfl (by
  intro args p r outs h hq
  simp only [sp_cnt1] at h; split at h <;> cases h
  rename_i k s m t b ks p n
  have hz := hq _ rfl
  refine Body.intro (rs := []) rfl rfl rfl ?_
  apply vc_run 1000 (stop := false) rfl; simp only [push_cast, reduceIte, Nat.reduceEqDiff, Nat.reduceAdd, Nat.reduceSub, Nat.reduceLT, Int.reduceNeg, Int.reduceLE, Int.reduceLT, Int.reduceToNat, Nat.reduceLeDiff, UInt8.reduceOfNat, UInt8.reduceOfNatLT, and_self, Nat.reduceMul, decide_true, decide_false, Bool.not_true, Bool.not_false, implies_true]
  constructor <;> omega)
theorem cntNds_append (l r : List Node) : cntNds (l ++ r) = cntNds l + cntNds r := by
  induction l with
  | nil => simp [cntNds]
  | cons x l ih => rw [List.cons_append, cntNds, cntNds, ih]; omega
theorem cntNd_eq (x : Node) : cntNd x = 1 + cntNds x.kids := by cases x; rw [cntNd]; rfl
theorem cntNds_take {l : List Node} {j : Nat} (h : j < l.length) : cntNds (l.take (j + 1)) = cntNds (l.take j) + (1 + cntNds (l.getD j nodeD).kids) := by
  rw [List.take_succ_eq_append_getElem h, cntNds_append]
  have e : l.getD j nodeD = l[j] := by simp [List.getD, h]
  rw [e, cntNds, cntNds, cntNd_eq]; omega
mutual
theorem cntNd_sz : ∀ x : Node, cntNd x ≤ 1 + szNd x
  | .mk k s m t a ks => by
    have := cntNds_sz ks
    rw [cntNd, szNd]; omega
theorem cntNds_sz : ∀ l : List Node, cntNds l ≤ szNds l
  | [] => by simp [cntNds]
  | x :: r => by
    have h1 := cntNd_sz x
    have h2 := cntNds_sz r
    rw [cntNds, szNds]; omega
end
theorem szNds_app (l r : List Node) : szNds (l ++ r) = szNds l + szNds r := by
  induction l with
  | nil => simp [szNds]
  | cons x l ih => rw [List.cons_append, szNds, szNds, ih]; omega
theorem szNds_step {l : List Node} {j : Nat} (h : j < l.length) : szNds (l.take (j + 1)) = szNds (l.take j) + (1 + szNd (l.getD j nodeD)) ∧ szNds (l.take (j + 1)) ≤ szNds l := by
  have e : l.getD j nodeD = l[j] := by simp [List.getD, h]
  constructor
  · rw [List.take_succ_eq_append_getElem h, szNds_app, e, szNds, szNds]; omega
  · have : szNds l = szNds (l.take (j + 1)) + szNds (l.drop (j + 1)) := by rw [← szNds_app, List.take_append_drop]
    omega
theorem szNds_kids (x : Node) : szNds x.kids ≤ szNd x := by
  have := szNd_eq x
  rw [szNds_eq]; omega
noncomputable def sp_eachC (z : Nat) : Spec := ⟨[.sl .node, .sl .int, .sc], [.rd, .rd, .io], false, fun
  | [.dat ⟨.node, l⟩, .dat ⟨.int, p⟩, .fn 76 [] [.pb [.int .i64 n]]] => some (some (szNds l < z ∧ p.length + szNds l ≤ 536870912 ∧ 0 ≤ n ∧ n + szNds l ≤ 536870912), .tup [], [.fn 76 [] [.pb [.int .i64 (n + cntNds l)]]])
  | _ => none⟩
@[push_cast] theorem sp_eachC_ps (z : Nat) : (sp_eachC z).ps = [.sl .node, .sl .int, .sc] := rfl
@[push_cast] theorem sp_eachC_md (z : Nat) : (sp_eachC z).modes = [.rd, .rd, .io] := rfl
@[push_cast] theorem sp_eachC_pure (z : Nat) : (sp_eachC z).pure = false := rfl
@[push_cast] theorem sp_eachC_run (z : Nat) (l : List Node) (p : List Int) (n : Int) : (sp_eachC z).run [.dat ⟨.node, l⟩, .dat ⟨.int, p⟩, .fn 76 [] [.pb [.int .i64 n]]] = some (some (szNds l < z ∧ p.length + szNds l ≤ 536870912 ∧ 0 ≤ n ∧ n + szNds l ≤ 536870912), .tup [], [.fn 76 [] [.pb [.int .i64 (n + cntNds l)]]]) := rfl
noncomputable def e_eachC_ (z : Nat) : Env := mk [(113, sp_cloneI), (76, sp_cnt1), (75, (sp_eachC z))] [] [] [] none
@[push_cast] theorem e_eachC__in (z : Nat) : (e_eachC_ z).inl = inlF [] := rfl
@[push_cast] theorem e_eachC__fn (z : Nat) : (e_eachC_ z).fnd = fndF none := rfl
@[push_cast] theorem e_eachC__gh (z : Nat) : (e_eachC_ z).gh = ghOf [] := rfl
@[push_cast] theorem e_eachC__dr (z : Nat) : (e_eachC_ z).dr = drOf [] := rfl
@[push_cast] theorem e_eachC__td (z : Nat) : (e_eachC_ z).td = td := rfl
@[push_cast] theorem e_eachC__eqt (z : Nat) : (e_eachC_ z).eqt = eqt := rfl
@[push_cast] theorem e_eachC__cal (z : Nat) : (e_eachC_ z).cal = calOf [(113, sp_cloneI), (76, sp_cnt1), (75, (sp_eachC z))] := rfl
theorem c_eachC_ (z : Nat) (h_eachC : CRow P0 ety0 75 (sp_eachC z)) : CRow P0 ety0 75 (sp_eachC (z+1)) := CRow.of (E := (e_eachC_ z)) (mkOk (.cons c_cloneI (.cons c_cnt1 (.cons h_eachC (.nil))))) func75 rfl rfl rfl (by
  intro args p r outs h hq
  simp only [sp_eachC] at h; split at h <;> cases h
  rename_i l p n
  obtain ⟨hn, hp, h0, h1⟩ := hq _ rfl
  have hl := szL_len szNd l
  rw [← szNds_eq] at hl
  refine Body.intro (rs := []) rfl rfl rfl ?_
  apply vc_run 1000 (stop := false) rfl; simp only [push_cast, reduceIte, Nat.reduceEqDiff, Nat.reduceAdd, Nat.reduceSub, Nat.reduceLT, Int.reduceNeg, Int.reduceLE, Int.reduceLT, Int.reduceToNat, Nat.reduceLeDiff, UInt8.reduceOfNat, UInt8.reduceOfNatLT, and_self, Nat.reduceMul, decide_true, decide_false, Bool.not_true, Bool.not_false, implies_true]
  refine Run.loop [11] [1, 2, 9, 10] [0] rfl (fun m vs bs => ∃ j : Nat, vs = [.int .i64 j] ∧ bs = [[.int .i64 (n + cntNds (l.take j))]] ∧ j ≤ l.length ∧ m = l.length - j) l.length ?_ ?_
  · simp only [push_cast, reduceIte, Nat.reduceEqDiff, Nat.reduceAdd, Nat.reduceSub, Nat.reduceLT, Int.reduceNeg, Int.reduceLE, Int.reduceLT, Int.reduceToNat, Nat.reduceLeDiff, UInt8.reduceOfNat, UInt8.reduceOfNatLT, and_self, Nat.reduceMul, decide_true, decide_false, Bool.not_true, Bool.not_false, implies_true]
    exact ⟨0, rfl, by simp [cntNds], by omega, by omega⟩
  rintro m vs bs ⟨j, rfl, rfl, hj, rfl⟩
  simp only [push_cast, reduceIte, Nat.reduceEqDiff, Nat.reduceAdd, Nat.reduceSub, Nat.reduceLT, Int.reduceNeg, Int.reduceLE, Int.reduceLT, Int.reduceToNat, Nat.reduceLeDiff, UInt8.reduceOfNat, UInt8.reduceOfNatLT, and_self, Nat.reduceMul, decide_true, decide_false, Bool.not_true, Bool.not_false, implies_true]
  apply vc_run 1000 (stop := false) rfl; simp only [push_cast, reduceIte, Nat.reduceEqDiff, Nat.reduceAdd, Nat.reduceSub, Nat.reduceLT, Int.reduceNeg, Int.reduceLE, Int.reduceLT, Int.reduceToNat, Nat.reduceLeDiff, UInt8.reduceOfNat, UInt8.reduceOfNatLT, and_self, Nat.reduceMul, decide_true, decide_false, Bool.not_true, Bool.not_false, implies_true]
  refine ⟨fun hlt => ?_, fun hge => ?_⟩
  · have hlt : j < l.length := Int.ofNat_lt.1 (of_decide_eq_true hlt)
    have hct := cntNds_take hlt
    obtain ⟨hs1, hs2⟩ := szNds_step hlt
    have hc1 := cntNds_sz (l.take j)
    have hk1 := szNds_kids (l.getD j nodeD)
    simp only [gd_nat]
    refine ⟨by omega, by omega, by unfold sizeOk; omega, by omega, ⟨kid_lt hn hlt, by omega, by omega, by omega⟩, by constructor <;> omega, _, ?_, j + 1, rfl, ?_, by omega, rfl⟩
    · omega
    · have e : n + (cntNds (l.take j) : Int) + 1 + (cntNds (l.getD j nodeD).kids : Int) = n + (cntNds (l.take (j + 1)) : Nat) := by omega
      rw [e]
  · have hge : j = l.length := by have := of_decide_eq_false hge; omega
    subst hge
    rw [List.take_length])
noncomputable def sp_eachCA : Spec := ⟨[.sl .node, .sl .int, .sc], [.rd, .rd, .io], false, fun
  | [.dat ⟨.node, l⟩, .dat ⟨.int, p⟩, .fn 76 [] [.pb [.int .i64 n]]] => some (some (p.length + szNds l ≤ 536870912 ∧ 0 ≤ n ∧ n + szNds l ≤ 536870912), .tup [], [.fn 76 [] [.pb [.int .i64 (n + cntNds l)]]])
  | _ => none⟩
@[push_cast] theorem sp_eachCA_ps : sp_eachCA.ps = [.sl .node, .sl .int, .sc] := rfl
@[push_cast] theorem sp_eachCA_md : sp_eachCA.modes = [.rd, .rd, .io] := rfl
@[push_cast] theorem sp_eachCA_pure : sp_eachCA.pure = false := rfl
@[push_cast] theorem sp_eachCA_run (l : List Node) (p : List Int) (n : Int) : sp_eachCA.run [.dat ⟨.node, l⟩, .dat ⟨.int, p⟩, .fn 76 [] [.pb [.int .i64 n]]] = some (some (p.length + szNds l ≤ 536870912 ∧ 0 ≤ n ∧ n + szNds l ≤ 536870912), .tup [], [.fn 76 [] [.pb [.int .i64 (n + cntNds l)]]]) := rfl
theorem r_eachC : ∀ z, CRow P0 ety0 75 (sp_eachC z)
  | 0 => .absurd (fun args p r outs h hq => by
      simp only [sp_eachC] at h; split at h <;> cases h
      exact absurd (hq _ rfl).1 (Nat.not_lt_zero _)) (ent_of func75 rfl rfl)
  | z + 1 => c_eachC_ z (r_eachC z)
theorem c_eachCA : CRow P0 ety0 75 sp_eachCA := .all (spn := sp_eachC) (fun _ => rfl) r_eachC (fun args p r outs h hq => by
  simp only [sp_eachCA] at h; split at h <;> cases h
  rename_i l p n
  exact ⟨szNds l + 1, _, rfl, fun q hq' => by cases hq'; exact ⟨Nat.lt_succ_self _, hq _ rfl⟩⟩)
noncomputable def sp_countT : Spec := ⟨[.sl .node], [.rd], true, fun
  | [.dat ⟨.node, l⟩] => some (some (szL szNd l ≤ 1048576), .int .i64 (cntNds l), [])
  | _ => none⟩
@[push_cast] theorem sp_countT_ps : sp_countT.ps = [.sl .node] := rfl
@[push_cast] theorem sp_countT_md : sp_countT.modes = [.rd] := rfl
@[push_cast] theorem sp_countT_pure : sp_countT.pure = true := rfl
@[push_cast] theorem sp_countT_run (l : List Node) : sp_countT.run [.dat ⟨.node, l⟩] = some (some (szL szNd l ≤ 1048576), .int .i64 (cntNds l), []) := rfl
noncomputable def e_countT : Env := mk [(75, sp_eachCA)] [] [] [] none
@[push_cast] theorem e_countT_in : e_countT.inl = inlF [] := rfl
@[push_cast] theorem e_countT_fn : e_countT.fnd = fndF none := rfl
@[push_cast] theorem e_countT_gh : e_countT.gh = ghOf [] := rfl
@[push_cast] theorem e_countT_dr : e_countT.dr = drOf [] := rfl
@[push_cast] theorem e_countT_td : e_countT.td = td := rfl
@[push_cast] theorem e_countT_eqt : e_countT.eqt = eqt := rfl
@[push_cast] theorem e_countT_cal : e_countT.cal = calOf [(75, sp_eachCA)] := rfl
theorem c_countT : CRow P0 ety0 45 sp_countT := CRow.of (E := e_countT) (mkOk (.cons c_eachCA (.nil))) func45 rfl rfl rfl (by
  intro args p r outs h hq
  simp only [sp_countT] at h; split at h <;> cases h
  rename_i l
  have hz := hq _ rfl
  refine Body.intro (rs := [.tmp 2]) rfl rfl rfl ?_
  apply vc_run 1000 (stop := false) rfl; simp only [push_cast, reduceIte, Nat.reduceEqDiff, Nat.reduceAdd, Nat.reduceSub, Nat.reduceLT, Int.reduceNeg, Int.reduceLE, Int.reduceLT, Int.reduceToNat, Nat.reduceLeDiff, UInt8.reduceOfNat, UInt8.reduceOfNatLT, and_self, Nat.reduceMul, decide_true, decide_false, Bool.not_true, Bool.not_false, implies_true]
  rw [← szNds_eq] at hz
  exact ⟨by omega, by rw [Int.zero_add]⟩)
noncomputable def sp_cntT (z : Nat) : Spec := ⟨[.sl .node], [.rd], true, fun
  | [.dat ⟨.node, l⟩] => some (some (szNds l < z ∧ szL szNd l ≤ 1048576), .int .i64 (cntNds l), [])
  | _ => none⟩
@[push_cast] theorem sp_cntT_ps (z : Nat) : (sp_cntT z).ps = [.sl .node] := rfl
@[push_cast] theorem sp_cntT_md (z : Nat) : (sp_cntT z).modes = [.rd] := rfl
@[push_cast] theorem sp_cntT_pure (z : Nat) : (sp_cntT z).pure = true := rfl
@[push_cast] theorem sp_cntT_run (z : Nat) (l : List Node) : (sp_cntT z).run [.dat ⟨.node, l⟩] = some (some (szNds l < z ∧ szL szNd l ≤ 1048576), .int .i64 (cntNds l), []) := rfl
noncomputable def e_l03Count_ (z : Nat) : Env := mk [(44, (sp_cntT z))] [] [] [] none
@[push_cast] theorem e_l03Count__in (z : Nat) : (e_l03Count_ z).inl = inlF [] := rfl
@[push_cast] theorem e_l03Count__fn (z : Nat) : (e_l03Count_ z).fnd = fndF none := rfl
@[push_cast] theorem e_l03Count__gh (z : Nat) : (e_l03Count_ z).gh = ghOf [] := rfl
@[push_cast] theorem e_l03Count__dr (z : Nat) : (e_l03Count_ z).dr = drOf [] := rfl
@[push_cast] theorem e_l03Count__td (z : Nat) : (e_l03Count_ z).td = td := rfl
@[push_cast] theorem e_l03Count__eqt (z : Nat) : (e_l03Count_ z).eqt = eqt := rfl
@[push_cast] theorem e_l03Count__cal (z : Nat) : (e_l03Count_ z).cal = calOf [(44, (sp_cntT z))] := rfl
theorem c_l03Count_ (z : Nat) (h_cntT : CRow P0 ety0 44 (sp_cntT z)) : CRow P0 ety0 44 (sp_cntT (z+1)) := CRow.of (E := (e_l03Count_ z)) (mkOk (.cons h_cntT (.nil))) func44 rfl rfl rfl (by
  intro args p r outs h hq
  simp only [sp_cntT] at h; split at h <;> cases h
  rename_i l
  obtain ⟨hn, hz⟩ := hq _ rfl
  have hl := szL_len szNd l
  have hc := cntNds_eq l
  refine Body.intro (rs := [.tmp 2]) rfl rfl rfl ?_
  apply vc_run 1000 (stop := false) rfl; simp only [push_cast, reduceIte, Nat.reduceEqDiff, Nat.reduceAdd, Nat.reduceSub, Nat.reduceLT, Int.reduceNeg, Int.reduceLE, Int.reduceLT, Int.reduceToNat, Nat.reduceLeDiff, UInt8.reduceOfNat, UInt8.reduceOfNatLT, and_self, Nat.reduceMul, decide_true, decide_false, Bool.not_true, Bool.not_false, implies_true]
  refine Run.loop [3, 4] [0] [] rfl (fun n vs bs => ∃ j : Nat, vs = [.int .i64 ((l.length : Int) + kcnt (l.take j)), .int .i64 j] ∧ bs = [] ∧ j ≤ l.length ∧ n = l.length - j) l.length ?_ ?_
  · simp only [push_cast, reduceIte, Nat.reduceEqDiff, Nat.reduceAdd, Nat.reduceSub, Nat.reduceLT, Int.reduceNeg, Int.reduceLE, Int.reduceLT, Int.reduceToNat, Nat.reduceLeDiff, UInt8.reduceOfNat, UInt8.reduceOfNatLT, and_self, Nat.reduceMul, decide_true, decide_false, Bool.not_true, Bool.not_false, implies_true]
    exact ⟨0, by simp [kcnt, sumL], by omega, by omega⟩
  rintro n vs bs ⟨j, rfl, rfl, hj, rfl⟩
  simp only [push_cast, reduceIte, Nat.reduceEqDiff, Nat.reduceAdd, Nat.reduceSub, Nat.reduceLT, Int.reduceNeg, Int.reduceLE, Int.reduceLT, Int.reduceToNat, Nat.reduceLeDiff, UInt8.reduceOfNat, UInt8.reduceOfNatLT, and_self, Nat.reduceMul, decide_true, decide_false, Bool.not_true, Bool.not_false, implies_true]
  apply vc_run 1000 (stop := false) rfl; simp only [push_cast, reduceIte, Nat.reduceEqDiff, Nat.reduceAdd, Nat.reduceSub, Nat.reduceLT, Int.reduceNeg, Int.reduceLE, Int.reduceLT, Int.reduceToNat, Nat.reduceLeDiff, UInt8.reduceOfNat, UInt8.reduceOfNatLT, and_self, Nat.reduceMul, decide_true, decide_false, Bool.not_true, Bool.not_false, implies_true]
  refine ⟨fun hlt => ?_, fun hge => ?_⟩
  · have hlt : j < l.length := Int.ofNat_lt.1 (of_decide_eq_true hlt)
    have hel := szL_at szNd nodeD hlt
    have hkd := szNd_eq (l.getD j nodeD)
    have hct := sumL_take (fun x => cntNds (Node.kids x)) l nodeD hlt
    have hct1 := sumL_take_le (fun x => cntNds (Node.kids x)) l (j + 1)
    have hsz := cntNds_sz l
    rw [szNds_eq] at hsz
    have hct : kcnt (l.take (j + 1)) = kcnt (l.take j) + cntNds (l.getD j nodeD).kids := hct
    have hct1 : kcnt (l.take (j + 1)) ≤ kcnt l := hct1
    simp only [gd_nat]
    refine ⟨by omega, ⟨kid_lt hn hlt, by omega⟩, by constructor <;> omega, by constructor <;> omega, _, ?_, j + 1, ?_, by omega, rfl⟩
    · omega
    · have e : (l.length : Int) + (kcnt (l.take j) : Nat) + (cntNds (l.getD j nodeD).kids : Nat) = (l.length : Int) + (kcnt (l.take (j + 1)) : Nat) := by omega
      rw [e]; rfl
  · have hge : j = l.length := by have := of_decide_eq_false hge; omega
    subst hge
    rw [List.take_length, hc]
    congr 1)
theorem r_cntT : ∀ z, CRow P0 ety0 44 (sp_cntT z)
  | 0 => .absurd (fun args p r outs h hq => by
      simp only [sp_cntT] at h; split at h <;> cases h
      exact absurd (hq _ rfl).1 (Nat.not_lt_zero _)) (ent_of func44 rfl rfl)
  | z + 1 => c_l03Count_ z (r_cntT z)
theorem c_l03Count : CRow P0 ety0 44 sp_countT := .all (spn := sp_cntT) (fun _ => rfl) r_cntT (fun args p r outs h hq => by
  simp only [sp_countT] at h; split at h <;> cases h
  rename_i l
  exact ⟨szNds l + 1, _, rfl, fun q hq' => by cases hq'; exact ⟨Nat.lt_succ_self _, hq _ rfl⟩⟩)
end Go.Ab
