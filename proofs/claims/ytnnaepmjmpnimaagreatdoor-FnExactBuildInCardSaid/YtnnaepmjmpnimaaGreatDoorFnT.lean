import Derived.Test.YtnnaepmjmpnimaaGreatDoorFnD
set_option linter.all false
set_option linter.unusedSimpArgs false
set_option linter.unusedVariables false
set_option linter.unusedSectionVars false
set_option maxRecDepth 20000
set_option maxHeartbeats 1000000
namespace Go.Ab
open Go Go.Proofs.Tryz
theorem CRow.absurd {P : Program} {ety : K → TypeId} {f : FuncId} {sp : Spec} (h : ∀ args p r outs, sp.run args = some (p, r, outs) → (∀ q, p = some q → q) → False) (he : ∀ args w, (callFunc f args).run P w = .ok (.enter f args) w) : CRow P ety f sp :=
  ⟨fun args p r outs hr hq => (h args p r outs hr hq).elim, he⟩
theorem CRow.all {P : Program} {ety : K → TypeId} {f : FuncId} {sp : Spec} {spn : Nat → Spec} (hm : ∀ n, (spn n).modes = sp.modes) (h : ∀ n, CRow P ety f (spn n))
    (hr : ∀ args p r outs, sp.run args = some (p, r, outs) → (∀ q, p = some q → q) → ∃ n p', (spn n).run args = some (p', r, outs) ∧ ∀ q, p' = some q → q) : CRow P ety f sp :=
  ⟨fun args p r outs hrun hq w R vs F => by
    obtain ⟨n, p', h1, h2⟩ := hr args p r outs hrun hq
    have := (h n).ok args p' r outs h1 h2 w R vs F
    rw [hm n] at this
    exact this, (h 0).ent⟩
def szAt (a : Attr) : Nat := a.name.length + a.value.length
@[push_cast] theorem eta_attr (a : Attr) : (⟨a.name, a.value⟩ : Attr) = a := rfl
@[push_cast] theorem eta_node (x : Node) : Node.mk x.kind x.space x.name x.text x.attrs x.kids = x := by cases x; rfl
mutual
def szNd : Node → Nat
  | .mk _ _ n t a ks => n.length + t.length + szL szAt a + szNds ks
def szNds : List Node → Nat
  | [] => 0
  | x :: r => 1 + szNd x + szNds r
end
theorem szNds_eq (l : List Node) : szNds l = szL szNd l := by
  induction l with
  | nil => simp [szNds, szL, sumL]
  | cons x r ih =>
    have e : sumL szNd (x :: r) = szNd x + sumL szNd r := by simp [sumL]
    rw [szNds, ih, szL, szL, e, List.length_cons]; omega
theorem szNd_mk (k s : Int) (m t : Str) (a : List Attr) (ks : List Node) : szNd (.mk k s m t a ks) = m.length + t.length + szL szAt a + szL szNd ks := by rw [szNd, szNds_eq]
theorem szNd_eq (x : Node) : szNd x = x.name.length + x.text.length + szL szAt x.attrs + szL szNd x.kids := by cases x; rw [szNd_mk]; rfl
theorem kid_lt {l : List Node} {n k : Nat} (h : szNds l < n + 1) (hk : k < l.length) : szNds (l.getD k nodeD).kids < n := by
  have h1 := szL_at szNd nodeD hk
  have h2 := szNd_eq (l.getD k nodeD)
  have h3 : l.length + sumL szNd l < n + 1 := by rw [szNds_eq] at h; exact h
  have h4 : szNd (l.getD k nodeD) ≤ sumL szNd l := sumL_mem szNd (by
    have e : l.getD k nodeD = l[k] := by simp [List.getD, hk]
    rw [e]; exact List.getElem_mem hk)
  rw [szNds_eq]; omega
noncomputable def sp_eqAttr : Spec := ⟨[.st .attr, .st .attr], [.rd, .rd], true, fun
  | [.agg [.str a, .str b], .agg [.str c, .str d]] => some (none, .bool (eqB (⟨a, b⟩ : Attr) ⟨c, d⟩), [])
  | _ => none⟩
@[push_cast] theorem sp_eqAttr_ps : sp_eqAttr.ps = [.st .attr, .st .attr] := rfl
@[push_cast] theorem sp_eqAttr_md : sp_eqAttr.modes = [.rd, .rd] := rfl
@[push_cast] theorem sp_eqAttr_pure : sp_eqAttr.pure = true := rfl
@[push_cast] theorem sp_eqAttr_run (a b c d : Str) : sp_eqAttr.run [.agg [.str a, .str b], .agg [.str c, .str d]] = some (none, .bool (eqB (⟨a, b⟩ : Attr) ⟨c, d⟩), []) := rfl
noncomputable def e_eqAttr : Env := mk [] [] [] [] none
@[push_cast] theorem e_eqAttr_in : e_eqAttr.inl = inlF [] := rfl
@[push_cast] theorem e_eqAttr_fn : e_eqAttr.fnd = fndF none := rfl
@[push_cast] theorem e_eqAttr_gh : e_eqAttr.gh = ghOf [] := rfl
@[push_cast] theorem e_eqAttr_dr : e_eqAttr.dr = drOf [] := rfl
@[push_cast] theorem e_eqAttr_td : e_eqAttr.td = td := rfl
@[push_cast] theorem e_eqAttr_eqt : e_eqAttr.eqt = eqt := rfl
@[push_cast] theorem e_eqAttr_cal : e_eqAttr.cal = calOf [] := rfl
theorem c_eqAttr : CRow P0 ety0 100 sp_eqAttr := CRow.of (E := e_eqAttr) (mkOk (.nil)) func100 rfl rfl rfl (by
  intro args p r outs h hq
  simp only [sp_eqAttr] at h; split at h <;> cases h
  rename_i a b c d
  refine Body.intro (rs := [.tmp 4]) rfl rfl rfl ?_
  apply vc_run 1000 (stop := false) rfl; simp only [push_cast, reduceIte, Nat.reduceEqDiff, Nat.reduceAdd, Nat.reduceSub, Nat.reduceLT, Int.reduceNeg, Int.reduceLE, Int.reduceLT, Int.reduceToNat, Nat.reduceLeDiff, UInt8.reduceOfNat, UInt8.reduceOfNatLT, and_self, Nat.reduceMul, decide_true, decide_false, Bool.not_true, Bool.not_false, implies_true]
  refine ⟨fun h => ?_, fun h1 => ⟨fun h => ?_, fun h2 => ?_⟩⟩
  · rw [eqB_ne]; intro e; cases e; simp at h
  · rw [eqB_ne]; intro e; cases e; simp at h
  · simp at h1 h2
    rw [h1, h2, eqB_of rfl])
noncomputable def sp_eqAttrS : Spec := ⟨[.sl .attr, .sl .attr], [.rd, .rd], true, fun
  | [.dat ⟨.attr, a⟩, .dat ⟨.attr, b⟩] => some (some (szL szAt a ≤ 1048576), .bool (eqB a b), [])
  | _ => none⟩
@[push_cast] theorem sp_eqAttrS_ps : sp_eqAttrS.ps = [.sl .attr, .sl .attr] := rfl
@[push_cast] theorem sp_eqAttrS_md : sp_eqAttrS.modes = [.rd, .rd] := rfl
@[push_cast] theorem sp_eqAttrS_pure : sp_eqAttrS.pure = true := rfl
@[push_cast] theorem sp_eqAttrS_run (a b : List Attr) : sp_eqAttrS.run [.dat ⟨.attr, a⟩, .dat ⟨.attr, b⟩] = some (some (szL szAt a ≤ 1048576), .bool (eqB a b), []) := rfl
noncomputable def e_eqAttrS : Env := mk [(100, sp_eqAttr)] [(6, [], [(true, [0, 1, 2, 3, 4, 5, 6, 7, 8, 9], [])])] [] [] none
@[push_cast] theorem e_eqAttrS_in : e_eqAttrS.inl = inlF [] := rfl
@[push_cast] theorem e_eqAttrS_fn : e_eqAttrS.fnd = fndF none := rfl
@[push_cast] theorem e_eqAttrS_gh : e_eqAttrS.gh = ghOf [] := rfl
@[push_cast] theorem e_eqAttrS_dr : e_eqAttrS.dr = drOf [(6, [], [(true, [0, 1, 2, 3, 4, 5, 6, 7, 8, 9], [])])] := rfl
@[push_cast] theorem e_eqAttrS_td : e_eqAttrS.td = td := rfl
@[push_cast] theorem e_eqAttrS_eqt : e_eqAttrS.eqt = eqt := rfl
@[push_cast] theorem e_eqAttrS_cal : e_eqAttrS.cal = calOf [(100, sp_eqAttr)] := rfl
theorem c_eqAttrS : CRow P0 ety0 61 sp_eqAttrS := CRow.of (E := e_eqAttrS) (mkOk (.cons c_eqAttr (.nil))) func61 rfl rfl rfl (by
  intro args p r outs h hq
  simp only [sp_eqAttrS] at h; split at h <;> cases h
  rename_i a b
  have hz := hq _ rfl
  have hl : a.length ≤ 1048576 := Nat.le_trans (szL_len _ _) hz
  refine Body.intro (rs := [.tmp 4]) rfl rfl rfl ?_
  apply vc_run 1000 (stop := false) rfl; simp only [push_cast, reduceIte, Nat.reduceEqDiff, Nat.reduceAdd, Nat.reduceSub, Nat.reduceLT, Int.reduceNeg, Int.reduceLE, Int.reduceLT, Int.reduceToNat, Nat.reduceLeDiff, UInt8.reduceOfNat, UInt8.reduceOfNatLT, and_self, Nat.reduceMul, decide_true, decide_false, Bool.not_true, Bool.not_false, implies_true]
  refine ⟨fun h => ?_, fun h => ?_⟩
  · rw [eqB_ne]; intro e; subst e; simp at h
  have h : a.length = b.length := by simp at h; omega
  refine Run.loop [5] [0, 1] [] rfl (fun m vs bs => ∃ k : Nat, vs = [.int .i64 k] ∧ bs = [] ∧ k ≤ a.length ∧ (∀ j < k, a.getD j attrD = b.getD j attrD) ∧ m = a.length - k) a.length ?_ ?_
  · simp only [push_cast, reduceIte, Nat.reduceEqDiff, Nat.reduceAdd, Nat.reduceSub, Nat.reduceLT, Int.reduceNeg, Int.reduceLE, Int.reduceLT, Int.reduceToNat, Nat.reduceLeDiff, UInt8.reduceOfNat, UInt8.reduceOfNatLT, and_self, Nat.reduceMul, decide_true, decide_false, Bool.not_true, Bool.not_false, implies_true]
    exact ⟨0, by simp, by omega, by simp, by omega⟩
  rintro m vs bs ⟨k, rfl, rfl, hk, hb, rfl⟩
  simp only [push_cast, reduceIte, Nat.reduceEqDiff, Nat.reduceAdd, Nat.reduceSub, Nat.reduceLT, Int.reduceNeg, Int.reduceLE, Int.reduceLT, Int.reduceToNat, Nat.reduceLeDiff, UInt8.reduceOfNat, UInt8.reduceOfNatLT, and_self, Nat.reduceMul, decide_true, decide_false, Bool.not_true, Bool.not_false, implies_true]
  apply vc_run 1000 (stop := false) rfl; simp only [push_cast, reduceIte, Nat.reduceEqDiff, Nat.reduceAdd, Nat.reduceSub, Nat.reduceLT, Int.reduceNeg, Int.reduceLE, Int.reduceLT, Int.reduceToNat, Nat.reduceLeDiff, UInt8.reduceOfNat, UInt8.reduceOfNatLT, and_self, Nat.reduceMul, decide_true, decide_false, Bool.not_true, Bool.not_false, implies_true]
  refine ⟨fun hlt => ?_, fun hge => ?_⟩
  · have hlt : k < a.length := by simpa using hlt
    have hel : szAt (a.getD k attrD) ≤ 1048576 := Nat.le_trans (szL_at _ _ hlt) hz
    simp only [gd_nat]
    refine ⟨by omega, by omega, fun hne => ?_, fun heq => ⟨by constructor <;> omega, _, by omega, k + 1, rfl, by omega, fun j hj => ?_, rfl⟩⟩
    · rw [eqB_ne]; intro e; subst e; first | (simp at hne; done) | exact absurd hne (by simp [eqB_self])
    · rcases Nat.lt_or_eq_of_le (Nat.le_of_lt_succ hj) with h | rfl
      · exact hb j h
      · first | exact eqB_not heq | (simpa using heq; done) | exact eqK (eqB_not heq)
  · have hge : k = a.length := by simp at hge; omega
    subst hge
    rw [eqB_of (list_eq attrD h hb)])
noncomputable def sp_eqNd (z : Nat) : Spec := ⟨[.st .node, .st .node], [.rd, .rd], true, fun
  | [.agg [.int .i64 k, .int .i64 s, .str m, .str t, .dat ⟨.attr, a⟩, .dat ⟨.node, ks⟩], .agg [.int .i64 k2, .int .i64 s2, .str m2, .str t2, .dat ⟨.attr, a2⟩, .dat ⟨.node, ks2⟩]] => some (some (szNds ks < z ∧ szNd (.mk k s m t a ks) ≤ 1048576), .bool (eqB (Node.mk k s m t a ks) (.mk k2 s2 m2 t2 a2 ks2)), [])
  | _ => none⟩
@[push_cast] theorem sp_eqNd_ps (z : Nat) : (sp_eqNd z).ps = [.st .node, .st .node] := rfl
@[push_cast] theorem sp_eqNd_md (z : Nat) : (sp_eqNd z).modes = [.rd, .rd] := rfl
@[push_cast] theorem sp_eqNd_pure (z : Nat) : (sp_eqNd z).pure = true := rfl
@[push_cast] theorem sp_eqNd_run (z : Nat) (k s k2 s2 : Int) (m t m2 t2 : Str) (a a2 : List Attr) (ks ks2 : List Node) : (sp_eqNd z).run [.agg [.int .i64 k, .int .i64 s, .str m, .str t, .dat ⟨.attr, a⟩, .dat ⟨.node, ks⟩], .agg [.int .i64 k2, .int .i64 s2, .str m2, .str t2, .dat ⟨.attr, a2⟩, .dat ⟨.node, ks2⟩]] = some (some (szNds ks < z ∧ szNd (.mk k s m t a ks) ≤ 1048576), .bool (eqB (Node.mk k s m t a ks) (.mk k2 s2 m2 t2 a2 ks2)), []) := rfl
noncomputable def sp_eqNds (z : Nat) : Spec := ⟨[.sl .node, .sl .node], [.rd, .rd], true, fun
  | [.dat ⟨.node, a⟩, .dat ⟨.node, b⟩] => some (some (szNds a < z ∧ szL szNd a ≤ 1048576), .bool (eqB a b), [])
  | _ => none⟩
@[push_cast] theorem sp_eqNds_ps (z : Nat) : (sp_eqNds z).ps = [.sl .node, .sl .node] := rfl
@[push_cast] theorem sp_eqNds_md (z : Nat) : (sp_eqNds z).modes = [.rd, .rd] := rfl
@[push_cast] theorem sp_eqNds_pure (z : Nat) : (sp_eqNds z).pure = true := rfl
@[push_cast] theorem sp_eqNds_run (z : Nat) (a b : List Node) : (sp_eqNds z).run [.dat ⟨.node, a⟩, .dat ⟨.node, b⟩] = some (some (szNds a < z ∧ szL szNd a ≤ 1048576), .bool (eqB a b), []) := rfl
noncomputable def e_eqNode (z : Nat) : Env := mk [(61, sp_eqAttrS), (11, (sp_eqNds z))] [] [] [] none
@[push_cast] theorem e_eqNode_in (z : Nat) : (e_eqNode z).inl = inlF [] := rfl
@[push_cast] theorem e_eqNode_fn (z : Nat) : (e_eqNode z).fnd = fndF none := rfl
@[push_cast] theorem e_eqNode_gh (z : Nat) : (e_eqNode z).gh = ghOf [] := rfl
@[push_cast] theorem e_eqNode_dr (z : Nat) : (e_eqNode z).dr = drOf [] := rfl
@[push_cast] theorem e_eqNode_td (z : Nat) : (e_eqNode z).td = td := rfl
@[push_cast] theorem e_eqNode_eqt (z : Nat) : (e_eqNode z).eqt = eqt := rfl
@[push_cast] theorem e_eqNode_cal (z : Nat) : (e_eqNode z).cal = calOf [(61, sp_eqAttrS), (11, (sp_eqNds z))] := rfl
theorem c_eqNode (z : Nat) (h_eqNds : CRow P0 ety0 11 (sp_eqNds z)) : CRow P0 ety0 30 (sp_eqNd z) := CRow.of (E := (e_eqNode z)) (mkOk (.cons c_eqAttrS (.cons h_eqNds (.nil)))) func30 rfl rfl rfl (by
  intro args p r outs h hq
  simp only [sp_eqNd] at h; split at h <;> cases h
  rename_i k s k2 s2 m t m2 t2 a a2 ks ks2
  obtain ⟨hz, hs⟩ := hq _ rfl
  rw [szNd_mk] at hs
  refine Body.intro (rs := [.tmp 4]) rfl rfl rfl ?_
  apply vc_run 1000 (stop := false) rfl; simp only [push_cast, reduceIte, Nat.reduceEqDiff, Nat.reduceAdd, Nat.reduceSub, Nat.reduceLT, Int.reduceNeg, Int.reduceLE, Int.reduceLT, Int.reduceToNat, Nat.reduceLeDiff, UInt8.reduceOfNat, UInt8.reduceOfNatLT, and_self, Nat.reduceMul, decide_true, decide_false, Bool.not_true, Bool.not_false, implies_true]
  refine ⟨fun h => ?_, fun h1 => ⟨fun h => ?_, fun h2 => ⟨fun h => ?_, fun h3 => ⟨fun h => ?_, fun h4 => ⟨by omega, fun h => ?_, fun h5 => ⟨⟨hz, by omega⟩, fun h => ?_, fun h6 => ?_⟩⟩⟩⟩⟩⟩
  · rw [eqB_ne]; intro e; cases e; simp at h
  · rw [eqB_ne]; intro e; cases e; simp at h
  · rw [eqB_ne]; intro e; cases e; simp at h
  · rw [eqB_ne]; intro e; cases e; simp at h
  · rw [eqB_ne]; intro e; cases e; exact eqB_yes h rfl
  · rw [eqB_ne]; intro e; cases e; exact eqB_yes h rfl
  · simp at h1 h2 h3 h4
    rw [h1, h2, h3, h4, eqB_not h5, eqB_not h6, eqB_of rfl])
noncomputable def e_eqNodeSr (z : Nat) : Env := mk [(30, (sp_eqNd z))] [(6, [], [(true, [0, 1, 2, 3, 4, 5, 6, 7, 8, 9], [])])] [] [] none
@[push_cast] theorem e_eqNodeSr_in (z : Nat) : (e_eqNodeSr z).inl = inlF [] := rfl
@[push_cast] theorem e_eqNodeSr_fn (z : Nat) : (e_eqNodeSr z).fnd = fndF none := rfl
@[push_cast] theorem e_eqNodeSr_gh (z : Nat) : (e_eqNodeSr z).gh = ghOf [] := rfl
@[push_cast] theorem e_eqNodeSr_dr (z : Nat) : (e_eqNodeSr z).dr = drOf [(6, [], [(true, [0, 1, 2, 3, 4, 5, 6, 7, 8, 9], [])])] := rfl
@[push_cast] theorem e_eqNodeSr_td (z : Nat) : (e_eqNodeSr z).td = td := rfl
@[push_cast] theorem e_eqNodeSr_eqt (z : Nat) : (e_eqNodeSr z).eqt = eqt := rfl
@[push_cast] theorem e_eqNodeSr_cal (z : Nat) : (e_eqNodeSr z).cal = calOf [(30, (sp_eqNd z))] := rfl
theorem c_eqNodeSr (z : Nat) (h_eqNd : CRow P0 ety0 30 (sp_eqNd z)) : CRow P0 ety0 11 (sp_eqNds (z+1)) := CRow.of (E := (e_eqNodeSr z)) (mkOk (.cons h_eqNd (.nil))) func11 rfl rfl rfl (by
  intro args p r outs h hq
  simp only [sp_eqNds] at h; split at h <;> cases h
  rename_i a b
  obtain ⟨hn, hz⟩ := hq _ rfl
  have hl : a.length ≤ 1048576 := Nat.le_trans (szL_len _ _) hz
  refine Body.intro (rs := [.tmp 4]) rfl rfl rfl ?_
  apply vc_run 1000 (stop := false) rfl; simp only [push_cast, reduceIte, Nat.reduceEqDiff, Nat.reduceAdd, Nat.reduceSub, Nat.reduceLT, Int.reduceNeg, Int.reduceLE, Int.reduceLT, Int.reduceToNat, Nat.reduceLeDiff, UInt8.reduceOfNat, UInt8.reduceOfNatLT, and_self, Nat.reduceMul, decide_true, decide_false, Bool.not_true, Bool.not_false, implies_true]
  refine ⟨fun h => ?_, fun h => ?_⟩
  · rw [eqB_ne]; intro e; subst e; simp at h
  have h : a.length = b.length := by simp at h; omega
  refine Run.loop [5] [0, 1] [] rfl (fun m vs bs => ∃ k : Nat, vs = [.int .i64 k] ∧ bs = [] ∧ k ≤ a.length ∧ (∀ j < k, a.getD j nodeD = b.getD j nodeD) ∧ m = a.length - k) a.length ?_ ?_
  · simp only [push_cast, reduceIte, Nat.reduceEqDiff, Nat.reduceAdd, Nat.reduceSub, Nat.reduceLT, Int.reduceNeg, Int.reduceLE, Int.reduceLT, Int.reduceToNat, Nat.reduceLeDiff, UInt8.reduceOfNat, UInt8.reduceOfNatLT, and_self, Nat.reduceMul, decide_true, decide_false, Bool.not_true, Bool.not_false, implies_true]
    exact ⟨0, by simp, by omega, by simp, by omega⟩
  rintro m vs bs ⟨k, rfl, rfl, hk, hb, rfl⟩
  simp only [push_cast, reduceIte, Nat.reduceEqDiff, Nat.reduceAdd, Nat.reduceSub, Nat.reduceLT, Int.reduceNeg, Int.reduceLE, Int.reduceLT, Int.reduceToNat, Nat.reduceLeDiff, UInt8.reduceOfNat, UInt8.reduceOfNatLT, and_self, Nat.reduceMul, decide_true, decide_false, Bool.not_true, Bool.not_false, implies_true]
  apply vc_run 1000 (stop := false) rfl; simp only [push_cast, reduceIte, Nat.reduceEqDiff, Nat.reduceAdd, Nat.reduceSub, Nat.reduceLT, Int.reduceNeg, Int.reduceLE, Int.reduceLT, Int.reduceToNat, Nat.reduceLeDiff, UInt8.reduceOfNat, UInt8.reduceOfNatLT, and_self, Nat.reduceMul, decide_true, decide_false, Bool.not_true, Bool.not_false, implies_true]
  refine ⟨fun hlt => ?_, fun hge => ?_⟩
  · have hlt : k < a.length := by simpa using hlt
    have hel : szNd (a.getD k nodeD) ≤ 1048576 := Nat.le_trans (szL_at _ _ hlt) hz
    simp only [gd_nat]
    refine ⟨by omega, by omega, ⟨kid_lt hn hlt, hel⟩, fun hne => ?_, fun heq => ⟨by constructor <;> omega, _, by omega, k + 1, rfl, by omega, fun j hj => ?_, rfl⟩⟩
    · rw [eqB_ne]; intro e; subst e; first | (simp at hne; done) | exact absurd hne (by simp [eqB_self])
    · rcases Nat.lt_or_eq_of_le (Nat.le_of_lt_succ hj) with h | rfl
      · exact hb j h
      · first | exact eqB_not heq | (simpa using heq; done) | exact eqK (eqB_not heq)
  · have hge : k = a.length := by simp at hge; omega
    subst hge
    rw [eqB_of (list_eq nodeD h hb)])
noncomputable def sp_eqNodeS : Spec := ⟨[.sl .node, .sl .node], [.rd, .rd], true, fun
  | [.dat ⟨.node, a⟩, .dat ⟨.node, b⟩] => some (some (szL szNd a ≤ 1048576), .bool (eqB a b), [])
  | _ => none⟩
@[push_cast] theorem sp_eqNodeS_ps : sp_eqNodeS.ps = [.sl .node, .sl .node] := rfl
@[push_cast] theorem sp_eqNodeS_md : sp_eqNodeS.modes = [.rd, .rd] := rfl
@[push_cast] theorem sp_eqNodeS_pure : sp_eqNodeS.pure = true := rfl
@[push_cast] theorem sp_eqNodeS_run (a b : List Node) : sp_eqNodeS.run [.dat ⟨.node, a⟩, .dat ⟨.node, b⟩] = some (some (szL szNd a ≤ 1048576), .bool (eqB a b), []) := rfl
theorem r_eqNds : ∀ z, CRow P0 ety0 11 (sp_eqNds z)
  | 0 => .absurd (fun args p r outs h hq => by
      simp only [sp_eqNds] at h; split at h <;> cases h
      exact absurd (hq _ rfl).1 (Nat.not_lt_zero _)) (ent_of func11 rfl rfl)
  | z + 1 => c_eqNodeSr z (c_eqNode z (r_eqNds z))
theorem c_eqNodeS : CRow P0 ety0 11 sp_eqNodeS := .all (spn := sp_eqNds) (fun _ => rfl) r_eqNds (fun args p r outs h hq => by
  simp only [sp_eqNodeS] at h; split at h <;> cases h
  rename_i a b
  exact ⟨szNds a + 1, _, rfl, fun q hq' => by cases hq'; exact ⟨Nat.lt_succ_self _, hq _ rfl⟩⟩)
end Go.Ab
