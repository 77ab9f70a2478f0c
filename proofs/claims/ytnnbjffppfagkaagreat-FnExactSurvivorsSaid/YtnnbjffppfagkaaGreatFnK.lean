/- What is left of a tree. -/
import Derived.Test.YtnnbjffppfagkaaGreatFnO
set_option linter.all false
set_option linter.unusedSimpArgs false
set_option linter.unusedVariables false
set_option linter.unusedSectionVars false
set_option maxRecDepth 20000
set_option maxHeartbeats 1000000
namespace Go.Ab
open Go Go.Proofs.Tryz
mutual
def textN : Node → Str
  | .mk k _ _ t _ ks => (bif decide (k = 2) then t else []) ++ textT ks
def textT : List Node → Str
  | [] => []
  | x :: r => textN x ++ textT r
end
theorem textN_eq (x : Node) : textN x = (bif decide (x.kind = 2) then x.text else []) ++ textT x.kids := by cases x; rw [textN]; rfl
theorem textT_append (l r : List Node) : textT (l ++ r) = textT l ++ textT r := by
  induction l with
  | nil => simp [textT]
  | cons x l ih => rw [List.cons_append, textT, textT, ih, List.append_assoc]
theorem textT_take {l : List Node} {j : Nat} (h : j < l.length) : textT (l.take (j + 1)) = textT (l.take j) ++ ((bif decide ((l.getD j nodeD).kind = 2) then (l.getD j nodeD).text else []) ++ textT (l.getD j nodeD).kids) := by
  rw [take_one (d := nodeD) h, textT_append, textT, textT, List.append_nil, textN_eq]
mutual
theorem textN_len : ∀ x : Node, (textN x).length ≤ szNd x
  | .mk k s m t a ks => by
    have h := textT_len ks
    rw [textN, szNd_mk, List.length_append, ← szNds_eq]
    cases decide (k = 2) <;> simp only [cond_true, cond_false, List.length_nil] <;> omega
theorem textT_len : ∀ l : List Node, (textT l).length ≤ szNds l
  | [] => by simp [textT]
  | x :: r => by
    have h1 := textN_len x
    have h2 := textT_len r
    rw [textT, szNds, List.length_append]; omega
end
theorem szNds_append (l r : List Node) : szNds (l ++ r) = szNds l + szNds r := by
  induction l with
  | nil => simp [szNds]
  | cons x l ih => rw [List.cons_append, szNds, szNds, ih]; omega
theorem szNds_take (l : List Node) (j : Nat) : szNds (l.take j) ≤ szNds l := by
  have : szNds l = szNds (l.take j) + szNds (l.drop j) := by rw [← szNds_append, List.take_append_drop]
  omega
noncomputable def sp_textT (z : Nat) : Spec := ⟨[.sl .node], [.rd], true, fun
  | [.dat ⟨.node, l⟩] => some (some (szNds l < z ∧ szL szNd l ≤ 1048576), .str (textT l), [])
  | _ => none⟩
@[push_cast] theorem sp_textT_ps (z : Nat) : (sp_textT z).ps = [.sl .node] := rfl
@[push_cast] theorem sp_textT_md (z : Nat) : (sp_textT z).modes = [.rd] := rfl
@[push_cast] theorem sp_textT_pure (z : Nat) : (sp_textT z).pure = true := rfl
@[push_cast] theorem sp_textT_run (z : Nat) (l : List Node) : (sp_textT z).run [.dat ⟨.node, l⟩] = some (some (szNds l < z ∧ szL szNd l ≤ 1048576), .str (textT l), []) := rfl
noncomputable def e_l03Text_ (z : Nat) : Env := mk [(121, (sp_textT z))] [] [] [] none
@[push_cast] theorem e_l03Text__in (z : Nat) : (e_l03Text_ z).inl = inlF [] := rfl
@[push_cast] theorem e_l03Text__fn (z : Nat) : (e_l03Text_ z).fnd = fndF none := rfl
@[push_cast] theorem e_l03Text__gh (z : Nat) : (e_l03Text_ z).gh = ghOf [] := rfl
@[push_cast] theorem e_l03Text__dr (z : Nat) : (e_l03Text_ z).dr = drOf [] := rfl
@[push_cast] theorem e_l03Text__td (z : Nat) : (e_l03Text_ z).td = td := rfl
@[push_cast] theorem e_l03Text__eqt (z : Nat) : (e_l03Text_ z).eqt = eqt := rfl
@[push_cast] theorem e_l03Text__cal (z : Nat) : (e_l03Text_ z).cal = calOf [(121, (sp_textT z))] := rfl
theorem c_l03Text_ (z : Nat) (h_textT : CRow P0 ety0 121 (sp_textT z)) : CRow P0 ety0 121 (sp_textT (z+1)) := CRow.of (E := (e_l03Text_ z)) (mkOk (.cons h_textT (.nil))) func121 rfl rfl rfl (by
  intro args p r outs h hq
  simp only [sp_textT] at h; split at h <;> cases h
  rename_i l
  obtain ⟨hn, hz⟩ := hq _ rfl
  have hl := szL_len szNd l
  refine Body.intro (rs := [.tmp 2]) rfl rfl rfl ?_
  apply vc_run 1000 (stop := false) rfl; simp only [push_cast, reduceIte, Nat.reduceEqDiff, Nat.reduceAdd, Nat.reduceSub, Nat.reduceLT, Int.reduceNeg, Int.reduceLE, Int.reduceLT, Int.reduceToNat, Nat.reduceLeDiff, UInt8.reduceOfNat, UInt8.reduceOfNatLT, and_self, Nat.reduceMul, decide_true, decide_false, Bool.not_true, Bool.not_false, implies_true]
  refine Run.loop [3, 4] [0] [] rfl (fun n vs bs => ∃ j : Nat, vs = [.str (textT (l.take j)), .int .i64 j] ∧ bs = [] ∧ j ≤ l.length ∧ n = l.length - j) l.length ?_ ?_
  · simp only [push_cast, reduceIte, Nat.reduceEqDiff, Nat.reduceAdd, Nat.reduceSub, Nat.reduceLT, Int.reduceNeg, Int.reduceLE, Int.reduceLT, Int.reduceToNat, Nat.reduceLeDiff, UInt8.reduceOfNat, UInt8.reduceOfNatLT, and_self, Nat.reduceMul, decide_true, decide_false, Bool.not_true, Bool.not_false, implies_true]
    exact ⟨0, rfl, by omega, by omega⟩
  rintro n vs bs ⟨j, rfl, rfl, hj, rfl⟩
  simp only [push_cast, reduceIte, Nat.reduceEqDiff, Nat.reduceAdd, Nat.reduceSub, Nat.reduceLT, Int.reduceNeg, Int.reduceLE, Int.reduceLT, Int.reduceToNat, Nat.reduceLeDiff, UInt8.reduceOfNat, UInt8.reduceOfNatLT, and_self, Nat.reduceMul, decide_true, decide_false, Bool.not_true, Bool.not_false, implies_true]
  apply vc_run 1000 (stop := false) rfl; simp only [push_cast, reduceIte, Nat.reduceEqDiff, Nat.reduceAdd, Nat.reduceSub, Nat.reduceLT, Int.reduceNeg, Int.reduceLE, Int.reduceLT, Int.reduceToNat, Nat.reduceLeDiff, UInt8.reduceOfNat, UInt8.reduceOfNatLT, and_self, Nat.reduceMul, decide_true, decide_false, Bool.not_true, Bool.not_false, implies_true]
  refine ⟨fun hlt => ?_, fun hge => ?_⟩
  · have hlt : j < l.length := Int.ofNat_lt.1 (of_decide_eq_true hlt)
    have hel := szL_at szNd nodeD hlt
    have ht := textT_take hlt
    have hs1 := szNds_take l (j + 1)
    have hs2 := textT_len (l.take (j + 1))
    rw [szNds_eq] at hs1 hs2
    rw [szNds_eq] at hs1
    have hk1 := szNd_eq (l.getD j nodeD)
    rw [ht] at hs2
    simp only [List.length_append] at hs2
    simp only [gd_nat]
    refine ⟨by omega, fun h => ?_, fun h => ?_⟩
    · rw [h, cond_true] at ht hs2
      refine ⟨by omega, by omega, by omega, ⟨kid_lt hn hlt, by omega⟩, by omega, by constructor <;> omega, _, ?_, j + 1, by rw [ht]; rfl, by omega, rfl⟩
      omega
    · rw [h, cond_false] at ht hs2
      rw [List.length_nil] at hs2
      refine ⟨by omega, ⟨kid_lt hn hlt, by omega⟩, by omega, by constructor <;> omega, _, ?_, j + 1, by rw [ht]; rfl, by omega, rfl⟩
      omega
  · have hge : j = l.length := by have := of_decide_eq_false hge; omega
    subst hge
    rw [List.take_length])
noncomputable def sp_l03Text : Spec := ⟨[.sl .node], [.rd], true, fun
  | [.dat ⟨.node, l⟩] => some (some (szL szNd l ≤ 1048576), .str (textT l), [])
  | _ => none⟩
@[push_cast] theorem sp_l03Text_ps : sp_l03Text.ps = [.sl .node] := rfl
@[push_cast] theorem sp_l03Text_md : sp_l03Text.modes = [.rd] := rfl
@[push_cast] theorem sp_l03Text_pure : sp_l03Text.pure = true := rfl
@[push_cast] theorem sp_l03Text_run (l : List Node) : sp_l03Text.run [.dat ⟨.node, l⟩] = some (some (szL szNd l ≤ 1048576), .str (textT l), []) := rfl
theorem r_textT : ∀ z, CRow P0 ety0 121 (sp_textT z)
  | 0 => .absurd (fun args p r outs h hq => by
      simp only [sp_textT] at h; split at h <;> cases h
      exact absurd (hq _ rfl).1 (Nat.not_lt_zero _)) (ent_of func121 rfl rfl)
  | z + 1 => c_l03Text_ z (r_textT z)
theorem c_l03Text : CRow P0 ety0 121 sp_l03Text := .all (spn := sp_textT) (fun _ => rfl) r_textT (fun args p r outs h hq => by
  simp only [sp_l03Text] at h; split at h <;> cases h
  rename_i l
  exact ⟨szNds l + 1, _, rfl, fun q hq' => by cases hq'; exact ⟨Nat.lt_succ_self _, hq _ rfl⟩⟩)
/-- A raw element in whose text a tag might begin. -/
def rawB (x : Node) : Bool := decide (x.space = 0) && isRawS x.name && hasC (textT x.kids) 60
noncomputable def sp_rawB : Spec := ⟨[.st .node], [.rd], true, fun
  | [.agg [.int .i64 k, .int .i64 s, .str m, .str t, .dat ⟨.attr, b⟩, .dat ⟨.node, ks⟩]] => some (some (szNd (.mk k s m t b ks) ≤ 1048576), .bool (rawB (.mk k s m t b ks)), [])
  | _ => none⟩
@[push_cast] theorem sp_rawB_ps : sp_rawB.ps = [.st .node] := rfl
@[push_cast] theorem sp_rawB_md : sp_rawB.modes = [.rd] := rfl
@[push_cast] theorem sp_rawB_pure : sp_rawB.pure = true := rfl
@[push_cast] theorem sp_rawB_run (k s : Int) (m t : Str) (b : List Attr) (ks : List Node) : sp_rawB.run [.agg [.int .i64 k, .int .i64 s, .str m, .str t, .dat ⟨.attr, b⟩, .dat ⟨.node, ks⟩]] = some (some (szNd (.mk k s m t b ks) ≤ 1048576), .bool (rawB (.mk k s m t b ks)), []) := rfl
noncomputable def e_rawB : Env := mk [(119, sp_isRawS), (121, sp_l03Text), (120, sp_hasC)] [] [] [] none
@[push_cast] theorem e_rawB_in : e_rawB.inl = inlF [] := rfl
@[push_cast] theorem e_rawB_fn : e_rawB.fnd = fndF none := rfl
@[push_cast] theorem e_rawB_gh : e_rawB.gh = ghOf [] := rfl
@[push_cast] theorem e_rawB_dr : e_rawB.dr = drOf [] := rfl
@[push_cast] theorem e_rawB_td : e_rawB.td = td := rfl
@[push_cast] theorem e_rawB_eqt : e_rawB.eqt = eqt := rfl
@[push_cast] theorem e_rawB_cal : e_rawB.cal = calOf [(119, sp_isRawS), (121, sp_l03Text), (120, sp_hasC)] := rfl
theorem c_rawB : CRow P0 ety0 88 sp_rawB := CRow.of (E := e_rawB) (mkOk (.cons c_isRawS2 (.cons c_l03Text (.cons c_hasC2 (.nil))))) func88 rfl rfl rfl (by
  intro args p r outs h hq
  simp only [sp_rawB] at h; split at h <;> cases h
  rename_i k s m t b ks
  have hz := hq _ rfl
  rw [szNd_mk] at hz
  refine Body.intro (rs := [.tmp 2]) rfl rfl rfl ?_
  apply vc_run 1000 (stop := false) rfl; simp only [push_cast, reduceIte, Nat.reduceEqDiff, Nat.reduceAdd, Nat.reduceSub, Nat.reduceLT, Int.reduceNeg, Int.reduceLE, Int.reduceLT, Int.reduceToNat, Nat.reduceLeDiff, UInt8.reduceOfNat, UInt8.reduceOfNatLT, and_self, Nat.reduceMul, decide_true, decide_false, Bool.not_true, Bool.not_false, implies_true]
  have h1 := textT_len ks
  rw [szNds_eq] at h1
  simp only [Bool.cond_false_right]
  refine ⟨fun _ => by omega, fun _ => by omega, rfl⟩)
noncomputable def sp_leftA : Spec := ⟨[.st .cfg, .st .node], [.rd, .rd], false, fun
  | [.agg [.bool ha, .bool ht, .dat ⟨.rule, al⟩, .dat ⟨.rule, re⟩, .dat ⟨.rule, un⟩, .dat ⟨.str, ns⟩, .dat ⟨.str, dr⟩, .bool co, .bool da], .agg [.int .i64 k, .int .i64 s, .str m, .str t, .dat ⟨.attr, b⟩, .dat ⟨.node, ks⟩]] => some (some (szCfg ⟨ha, ht, al, re, un, ns, dr, co, da⟩ ≤ 1048576 ∧ szNd (.mk k s m t b ks) ≤ 1048576 ∧ ∀ a ∈ b, a.name.length ≤ 65536 ∧ a.value.length ≤ 65536), .own true ⟨.attr, b.filter (keepA ⟨ha, ht, al, re, un, ns, dr, co, da⟩ s m)⟩, [])
  | _ => none⟩
@[push_cast] theorem sp_leftA_ps : sp_leftA.ps = [.st .cfg, .st .node] := rfl
@[push_cast] theorem sp_leftA_md : sp_leftA.modes = [.rd, .rd] := rfl
@[push_cast] theorem sp_leftA_pure : sp_leftA.pure = false := rfl
@[push_cast] theorem sp_leftA_run (ha ht : Bool) (al re un : List Rule) (ns dr : List Str) (co da : Bool) (k s : Int) (m t : Str) (b : List Attr) (ks : List Node) : sp_leftA.run [.agg [.bool ha, .bool ht, .dat ⟨.rule, al⟩, .dat ⟨.rule, re⟩, .dat ⟨.rule, un⟩, .dat ⟨.str, ns⟩, .dat ⟨.str, dr⟩, .bool co, .bool da], .agg [.int .i64 k, .int .i64 s, .str m, .str t, .dat ⟨.attr, b⟩, .dat ⟨.node, ks⟩]] = some (some (szCfg ⟨ha, ht, al, re, un, ns, dr, co, da⟩ ≤ 1048576 ∧ szNd (.mk k s m t b ks) ≤ 1048576 ∧ ∀ a ∈ b, a.name.length ≤ 65536 ∧ a.value.length ≤ 65536), .own true ⟨.attr, b.filter (keepA ⟨ha, ht, al, re, un, ns, dr, co, da⟩ s m)⟩, []) := rfl
theorem filter_one {α : Type} {p : α → Bool} {l : List α} {d : α} {k : Nat} (h : k < l.length) : (l.take (k + 1)).filter p = (l.take k).filter p ++ (bif p (l.getD k d) then [l.getD k d] else []) := by
  rw [take_one (d := d) h, List.filter_append]
  cases hp : p (l.getD k d) <;> simp only [List.filter_cons, hp, if_true, Bool.false_eq_true, if_false, List.filter_nil, cond_true, cond_false]
noncomputable def e_l08Attrs : Env := mk [(122, sp_keepA)] [(5, [], [])] [] [] none
@[push_cast] theorem e_l08Attrs_in : e_l08Attrs.inl = inlF [] := rfl
@[push_cast] theorem e_l08Attrs_fn : e_l08Attrs.fnd = fndF none := rfl
@[push_cast] theorem e_l08Attrs_gh : e_l08Attrs.gh = ghOf [] := rfl
@[push_cast] theorem e_l08Attrs_dr : e_l08Attrs.dr = drOf [(5, [], [])] := rfl
@[push_cast] theorem e_l08Attrs_td : e_l08Attrs.td = td := rfl
@[push_cast] theorem e_l08Attrs_eqt : e_l08Attrs.eqt = eqt := rfl
@[push_cast] theorem e_l08Attrs_cal : e_l08Attrs.cal = calOf [(122, sp_keepA)] := rfl
theorem c_l08Attrs : CRow P0 ety0 89 sp_leftA := CRow.of (E := e_l08Attrs) (mkOk (.cons c_keepA2 (.nil))) func89 rfl rfl rfl (by
  intro args p r outs h hq
  simp only [sp_leftA] at h; split at h <;> cases h
  rename_i ha ht al re un ns dr co da k s m t b ks
  obtain ⟨hc, hz, hx⟩ := hq _ rfl
  rw [szNd_mk] at hz
  have hb := szL_len szAt b
  refine Body.intro (rs := [.tmp 4]) rfl rfl rfl ?_
  apply vc_run 1000 (stop := false) rfl; simp only [push_cast, reduceIte, Nat.reduceEqDiff, Nat.reduceAdd, Nat.reduceSub, Nat.reduceLT, Int.reduceNeg, Int.reduceLE, Int.reduceLT, Int.reduceToNat, Nat.reduceLeDiff, UInt8.reduceOfNat, UInt8.reduceOfNatLT, and_self, Nat.reduceMul, decide_true, decide_false, Bool.not_true, Bool.not_false, implies_true]
  refine Run.loop [5, 6] [2, 3] [0, 1] rfl (fun n vs bs => ∃ j : Nat, vs = [.own true ⟨.attr, (b.take j).filter (keepA ⟨ha, ht, al, re, un, ns, dr, co, da⟩ s m)⟩, .int .i64 j] ∧ bs = [[.bool ha, .bool ht, .dat ⟨.rule, al⟩, .dat ⟨.rule, re⟩, .dat ⟨.rule, un⟩, .dat ⟨.str, ns⟩, .dat ⟨.str, dr⟩, .bool co, .bool da], [.int .i64 k, .int .i64 s, .str m, .str t, .dat ⟨.attr, b⟩, .dat ⟨.node, ks⟩]] ∧ j ≤ b.length ∧ n = b.length - j) b.length ?_ ?_
  · simp only [push_cast, reduceIte, Nat.reduceEqDiff, Nat.reduceAdd, Nat.reduceSub, Nat.reduceLT, Int.reduceNeg, Int.reduceLE, Int.reduceLT, Int.reduceToNat, Nat.reduceLeDiff, UInt8.reduceOfNat, UInt8.reduceOfNatLT, and_self, Nat.reduceMul, decide_true, decide_false, Bool.not_true, Bool.not_false, implies_true]
    exact ⟨0, rfl, by omega, by omega⟩
  rintro n vs bs ⟨j, rfl, rfl, hj, rfl⟩
  simp only [push_cast, reduceIte, Nat.reduceEqDiff, Nat.reduceAdd, Nat.reduceSub, Nat.reduceLT, Int.reduceNeg, Int.reduceLE, Int.reduceLT, Int.reduceToNat, Nat.reduceLeDiff, UInt8.reduceOfNat, UInt8.reduceOfNatLT, and_self, Nat.reduceMul, decide_true, decide_false, Bool.not_true, Bool.not_false, implies_true]
  apply vc_run 1000 (stop := false) rfl; simp only [push_cast, reduceIte, Nat.reduceEqDiff, Nat.reduceAdd, Nat.reduceSub, Nat.reduceLT, Int.reduceNeg, Int.reduceLE, Int.reduceLT, Int.reduceToNat, Nat.reduceLeDiff, UInt8.reduceOfNat, UInt8.reduceOfNatLT, and_self, Nat.reduceMul, decide_true, decide_false, Bool.not_true, Bool.not_false, implies_true]
  refine ⟨fun hlt => ?_, fun hge => ?_⟩
  · have hlt : j < b.length := Int.ofNat_lt.1 (of_decide_eq_true hlt)
    have hxj := fit_at (d := attrD) hx hlt
    have hf := filter_one (p := keepA ⟨ha, ht, al, re, un, ns, dr, co, da⟩ s m) (d := attrD) hlt
    have hfl : ((b.take j).filter (keepA ⟨ha, ht, al, re, un, ns, dr, co, da⟩ s m)).length ≤ j := Nat.le_trans (List.length_filter_le _ _) (by rw [List.length_take]; omega)
    simp only [gd_nat]
    refine ⟨by omega, ⟨hc, hxj⟩, fun hy => ⟨by omega, by unfold sizeOk; omega, by constructor <;> omega, _, ?_, j + 1, by rw [hf, hy]; rfl, by omega, rfl⟩, fun hn => ⟨by constructor <;> omega, _, ?_, j + 1, by rw [hf, hn, cond_false, List.append_nil]; rfl, by omega, rfl⟩⟩
    · omega
    · omega
  · have hge : j = b.length := by have := of_decide_eq_false hge; omega
    subst hge
    rw [List.take_length])
mutual
/-- What comes into a node's place. -/
def sanN (c : Cfg) : Node → List Node
  | .mk k s m t a ks => bif decide (k = 2) then [.mk k 0 [] t [] []]
    else bif decide (k = 3) then (bif !c.comments || !commentOK t then [] else [.mk k 0 [] t [] []])
    else bif unwB c s m then sanT c ks
    else bif !allB c s m || rawB (.mk k s m t a ks) then []
    else [.mk k s m [] (a.filter (keepA c s m)) (sanT c ks)]
def sanT (c : Cfg) : List Node → List Node
  | [] => []
  | x :: r => sanN c x ++ sanT c r
end
mutual
/-- What both sides ask of a node. -/
def okNd : Node → Prop
  | .mk k s m t a ks => ((k = 2 ∨ k = 3) ∧ s = 0 ∧ m = [] ∧ a = [] ∧ ks = [] ∧ t.length ≤ 65536) ∨
    (k = 1 ∧ t = [] ∧ (∀ x ∈ a, x.name.length ≤ 65536 ∧ x.value.length ≤ 65536) ∧ (s = 0 ∧ isRawS m = true → ∀ x ∈ ks, x.kind = 2) ∧ okNds ks)
def okNds : List Node → Prop
  | [] => True
  | x :: r => okNd x ∧ okNds r
end
theorem okNds_iff (l : List Node) : okNds l ↔ ∀ x ∈ l, okNd x := by
  induction l with
  | nil => simp [okNds]
  | cons x r ih => rw [okNds, ih]; simp
theorem okNd_mk (k s : Int) (m t : Str) (a : List Attr) (ks : List Node) : okNd (.mk k s m t a ks) ↔ ((k = 2 ∨ k = 3) ∧ s = 0 ∧ m = [] ∧ a = [] ∧ ks = [] ∧ t.length ≤ 65536) ∨
    (k = 1 ∧ t = [] ∧ (∀ x ∈ a, x.name.length ≤ 65536 ∧ x.value.length ≤ 65536) ∧ (s = 0 ∧ isRawS m = true → ∀ x ∈ ks, x.kind = 2) ∧ okNds ks) := by rw [okNd]
theorem sanT_append (c : Cfg) (l r : List Node) : sanT c (l ++ r) = sanT c l ++ sanT c r := by
  induction l with
  | nil => simp [sanT]
  | cons x l ih => rw [List.cons_append, sanT, sanT, ih, List.append_assoc]
theorem sanT_take (c : Cfg) {l : List Node} {j : Nat} (h : j < l.length) : sanT c (l.take (j + 1)) = sanT c (l.take j) ++ sanN c (l.getD j nodeD) := by
  rw [take_one (d := nodeD) h, sanT_append, sanT, sanT, List.append_nil]
theorem szA_filter (p : Attr → Bool) (l : List Attr) : szL szAt (l.filter p) ≤ szL szAt l := by
  induction l with
  | nil => simp
  | cons x l ih =>
    have e : ∀ (y : Attr) (r : List Attr), szL szAt (y :: r) = 1 + szAt y + szL szAt r := fun y r => by simp [szL, sumL]; omega
    rw [List.filter_cons, e]
    split
    · rw [e]; omega
    · omega
mutual
theorem sanN_sz (c : Cfg) : ∀ x : Node, szNds (sanN c x) ≤ 1 + szNd x
  | .mk k s m t a ks => by
    have h := sanT_sz c ks
    have hf := szA_filter (keepA c s m) a
    have e : ∀ t', szNd (.mk k 0 [] t' [] []) = t'.length := fun t' => by rw [szNd]; simp [szL, sumL, szNds]
    rw [sanN, szNd]
    have one : ∀ y : Node, szNds [y] = 1 + szNd y := fun y => by simp [szNds]
    cases decide (k = 2) with
    | true => rw [cond_true, one, e]; omega
    | false =>
      rw [cond_false]
      cases decide (k = 3) with
      | true =>
        rw [cond_true]
        cases (!c.comments || !commentOK t) with
        | true => simp [szNds]
        | false => rw [cond_false, one, e]; omega
      | false =>
        rw [cond_false]
        cases unwB c s m with
        | true => rw [cond_true]; omega
        | false =>
          rw [cond_false]
          cases (!allB c s m || rawB (.mk k s m t a ks)) with
          | true => simp [szNds]
          | false =>
            rw [cond_false, one, szNd]
            simp only [List.length_nil]
            omega
theorem sanT_sz (c : Cfg) : ∀ l : List Node, szNds (sanT c l) ≤ szNds l
  | [] => by simp [sanT]
  | x :: r => by
    have h1 := sanN_sz c x
    have h2 := sanT_sz c r
    rw [sanT, szNds_append, szNds]; omega
end
theorem sanT_take_sz (c : Cfg) (l : List Node) (j : Nat) : szNds (sanT c (l.take j)) ≤ szNds l := Nat.le_trans (sanT_sz c _) (szNds_take l j)
theorem sanT_texts (c : Cfg) : ∀ l : List Node, (∀ x ∈ l, x.kind = 2) → ∀ x ∈ sanT c l, x.kind = 2
  | [], _ => fun x hx => by simp [sanT] at hx
  | .mk k s m t a ks :: r, h => fun x hx => by
    have hk : k = 2 := h _ List.mem_cons_self
    rw [sanT, sanN, decide_eq_true hk, cond_true] at hx
    rcases List.mem_append.1 hx with hx | hx
    · rw [List.mem_singleton.1 hx]; exact hk
    · exact sanT_texts c r (fun y hy => h y (List.mem_cons_of_mem _ hy)) x hx
mutual
theorem sanN_ok (c : Cfg) : ∀ x : Node, okNd x → okNds (sanN c x)
  | .mk k s m t a ks, h => by
    rw [okNd_mk] at h
    have one : ∀ y : Node, okNd y → okNds [y] := fun y hy => by simp [okNds, hy]
    rw [sanN]
    rcases h with ⟨hk, hs, hm, ha, hks, ht⟩ | ⟨hk, ht, ha, hr, hks⟩
    · have hN : okNd (.mk k 0 [] t [] []) := by rw [okNd_mk]; exact .inl ⟨hk, rfl, rfl, rfl, rfl, ht⟩
      rcases hk with hk | hk
      · rw [decide_eq_true hk]; exact one _ hN
      · rw [decide_eq_false (show ¬ k = 2 by omega), decide_eq_true hk, cond_false, cond_true]
        cases (!c.comments || !commentOK t) with
        | true => trivial
        | false => exact one _ hN
    · rw [decide_eq_false (show ¬ k = 2 by omega), decide_eq_false (show ¬ k = 3 by omega), cond_false, cond_false]
      have ih := sanT_ok c ks hks
      cases unwB c s m with
      | true => exact ih
      | false =>
        rw [cond_false]
        cases (!allB c s m || rawB (.mk k s m t a ks)) with
        | true => trivial
        | false =>
          rw [cond_false]
          refine one _ ?_
          rw [okNd_mk]
          exact .inr ⟨hk, rfl, fun x hx => ha x (List.mem_filter.1 hx).1, fun h => sanT_texts c ks (hr h), ih⟩
theorem sanT_ok (c : Cfg) : ∀ l : List Node, okNds l → okNds (sanT c l)
  | [], _ => by rw [sanT]; trivial
  | x :: r, h => by
    rw [okNds] at h
    have h1 := (okNds_iff _).1 (sanN_ok c x h.1)
    have h2 := (okNds_iff _).1 (sanT_ok c r h.2)
    rw [sanT, okNds_iff]
    intro y hy
    rcases List.mem_append.1 hy with hy | hy
    · exact h1 y hy
    · exact h2 y hy
end
noncomputable def sp_sanN (z : Nat) : Spec := ⟨[.st .cfg, .st .node], [.rd, .rd], false, fun
  | [.agg [.bool ha, .bool ht, .dat ⟨.rule, al⟩, .dat ⟨.rule, re⟩, .dat ⟨.rule, un⟩, .dat ⟨.str, ns⟩, .dat ⟨.str, dr⟩, .bool co, .bool da], .agg [.int .i64 k, .int .i64 s, .str m, .str t, .dat ⟨.attr, b⟩, .dat ⟨.node, ks⟩]] => some (some (szNds ks < z ∧ szNd (.mk k s m t b ks) ≤ 1048576 ∧ szCfg ⟨ha, ht, al, re, un, ns, dr, co, da⟩ ≤ 1048576 ∧ okNd (.mk k s m t b ks)), .own true ⟨.node, sanN ⟨ha, ht, al, re, un, ns, dr, co, da⟩ (.mk k s m t b ks)⟩, [])
  | _ => none⟩
@[push_cast] theorem sp_sanN_ps (z : Nat) : (sp_sanN z).ps = [.st .cfg, .st .node] := rfl
@[push_cast] theorem sp_sanN_md (z : Nat) : (sp_sanN z).modes = [.rd, .rd] := rfl
@[push_cast] theorem sp_sanN_pure (z : Nat) : (sp_sanN z).pure = false := rfl
@[push_cast] theorem sp_sanN_run (z : Nat) (ha ht : Bool) (al re un : List Rule) (ns dr : List Str) (co da : Bool) (k s : Int) (m t : Str) (b : List Attr) (ks : List Node) : (sp_sanN z).run [.agg [.bool ha, .bool ht, .dat ⟨.rule, al⟩, .dat ⟨.rule, re⟩, .dat ⟨.rule, un⟩, .dat ⟨.str, ns⟩, .dat ⟨.str, dr⟩, .bool co, .bool da], .agg [.int .i64 k, .int .i64 s, .str m, .str t, .dat ⟨.attr, b⟩, .dat ⟨.node, ks⟩]] = some (some (szNds ks < z ∧ szNd (.mk k s m t b ks) ≤ 1048576 ∧ szCfg ⟨ha, ht, al, re, un, ns, dr, co, da⟩ ≤ 1048576 ∧ okNd (.mk k s m t b ks)), .own true ⟨.node, sanN ⟨ha, ht, al, re, un, ns, dr, co, da⟩ (.mk k s m t b ks)⟩, []) := rfl
noncomputable def sp_sanT (z : Nat) : Spec := ⟨[.st .cfg, .sl .node], [.rd, .rd], false, fun
  | [.agg [.bool ha, .bool ht, .dat ⟨.rule, al⟩, .dat ⟨.rule, re⟩, .dat ⟨.rule, un⟩, .dat ⟨.str, ns⟩, .dat ⟨.str, dr⟩, .bool co, .bool da], .dat ⟨.node, l⟩] => some (some (szNds l < z ∧ szL szNd l ≤ 1048576 ∧ szCfg ⟨ha, ht, al, re, un, ns, dr, co, da⟩ ≤ 1048576 ∧ okNds l), .own true ⟨.node, sanT ⟨ha, ht, al, re, un, ns, dr, co, da⟩ l⟩, [])
  | _ => none⟩
@[push_cast] theorem sp_sanT_ps (z : Nat) : (sp_sanT z).ps = [.st .cfg, .sl .node] := rfl
@[push_cast] theorem sp_sanT_md (z : Nat) : (sp_sanT z).modes = [.rd, .rd] := rfl
@[push_cast] theorem sp_sanT_pure (z : Nat) : (sp_sanT z).pure = false := rfl
@[push_cast] theorem sp_sanT_run (z : Nat) (ha ht : Bool) (al re un : List Rule) (ns dr : List Str) (co da : Bool) (l : List Node) : (sp_sanT z).run [.agg [.bool ha, .bool ht, .dat ⟨.rule, al⟩, .dat ⟨.rule, re⟩, .dat ⟨.rule, un⟩, .dat ⟨.str, ns⟩, .dat ⟨.str, dr⟩, .bool co, .bool da], .dat ⟨.node, l⟩] = some (some (szNds l < z ∧ szL szNd l ≤ 1048576 ∧ szCfg ⟨ha, ht, al, re, un, ns, dr, co, da⟩ ≤ 1048576 ∧ okNds l), .own true ⟨.node, sanT ⟨ha, ht, al, re, un, ns, dr, co, da⟩ l⟩, []) := rfl
noncomputable def sp_sanI (z : Nat) : Spec := ⟨[.st .cfg, .sl .node], [.rd, .rd], false, fun
  | [.agg [.bool ha, .bool ht, .dat ⟨.rule, al⟩, .dat ⟨.rule, re⟩, .dat ⟨.rule, un⟩, .dat ⟨.str, ns⟩, .dat ⟨.str, dr⟩, .bool co, .bool da], .dat ⟨.node, l⟩] => some (some (szNds l < z ∧ szL szNd l ≤ 1048576 ∧ szCfg ⟨ha, ht, al, re, un, ns, dr, co, da⟩ ≤ 1048576 ∧ okNds l), .own true ⟨.node, sanT ⟨ha, ht, al, re, un, ns, dr, co, da⟩ l⟩, [])
  | _ => none⟩
@[push_cast] theorem sp_sanI_ps (z : Nat) : (sp_sanI z).ps = [.st .cfg, .sl .node] := rfl
@[push_cast] theorem sp_sanI_md (z : Nat) : (sp_sanI z).modes = [.rd, .rd] := rfl
@[push_cast] theorem sp_sanI_pure (z : Nat) : (sp_sanI z).pure = false := rfl
@[push_cast] theorem sp_sanI_run (z : Nat) (ha ht : Bool) (al re un : List Rule) (ns dr : List Str) (co da : Bool) (l : List Node) : (sp_sanI z).run [.agg [.bool ha, .bool ht, .dat ⟨.rule, al⟩, .dat ⟨.rule, re⟩, .dat ⟨.rule, un⟩, .dat ⟨.str, ns⟩, .dat ⟨.str, dr⟩, .bool co, .bool da], .dat ⟨.node, l⟩] = some (some (szNds l < z ∧ szL szNd l ≤ 1048576 ∧ szCfg ⟨ha, ht, al, re, un, ns, dr, co, da⟩ ≤ 1048576 ∧ okNds l), .own true ⟨.node, sanT ⟨ha, ht, al, re, un, ns, dr, co, da⟩ l⟩, []) := rfl
theorem sanN_mk (c : Cfg) (k s : Int) (m t : Str) (a : List Attr) (ks : List Node) : sanN c (.mk k s m t a ks) = bif decide (k = 2) then [.mk k 0 [] t [] []]
    else bif decide (k = 3) then (bif !c.comments || !commentOK t then [] else [.mk k 0 [] t [] []])
    else bif unwB c s m then sanT c ks
    else bif !allB c s m || rawB (.mk k s m t a ks) then []
    else [.mk k s m [] (a.filter (keepA c s m)) (sanT c ks)] := by rw [sanN]
theorem ok_com {k s : Int} {m t : Str} {a : List Attr} {ks : List Node} (h : okNd (.mk k s m t a ks)) (hk : k = 3) : t.length ≤ 65536 := by
  rw [okNd_mk] at h
  rcases h with h | h
  · exact h.2.2.2.2.2
  · exact absurd h.1 (by omega)
theorem ok_el {k s : Int} {m t : Str} {a : List Attr} {ks : List Node} (h : okNd (.mk k s m t a ks)) (h2 : ¬ k = 2) (h3 : ¬ k = 3) : k = 1 ∧ t = [] ∧ (∀ x ∈ a, x.name.length ≤ 65536 ∧ x.value.length ≤ 65536) ∧ (s = 0 ∧ isRawS m = true → ∀ x ∈ ks, x.kind = 2) ∧ okNds ks := by
  rw [okNd_mk] at h
  rcases h with h | h
  · exact absurd h.1 (by omega)
  · exact h
noncomputable def e_l08Node_ (z : Nat) : Env := mk [(85, sp_commentOK), (86, sp_unwB), (87, sp_allB), (88, sp_rawB), (89, sp_leftA), (35, (sp_sanT z))] [(11, [8, 12, 14], [[1, 2], [1, 2], [1, 2], [1, 2], [1, 2], [1, 2], [], [], [], [0], [0], [0]])] [] [] none
@[push_cast] theorem e_l08Node__in (z : Nat) : (e_l08Node_ z).inl = inlF [] := rfl
@[push_cast] theorem e_l08Node__fn (z : Nat) : (e_l08Node_ z).fnd = fndF none := rfl
@[push_cast] theorem e_l08Node__gh (z : Nat) : (e_l08Node_ z).gh = ghOf [] := rfl
@[push_cast] theorem e_l08Node__dr (z : Nat) : (e_l08Node_ z).dr = drOf [(11, [8, 12, 14], [[1, 2], [1, 2], [1, 2], [1, 2], [1, 2], [1, 2], [], [], [], [0], [0], [0]])] := rfl
@[push_cast] theorem e_l08Node__td (z : Nat) : (e_l08Node_ z).td = td := rfl
@[push_cast] theorem e_l08Node__eqt (z : Nat) : (e_l08Node_ z).eqt = eqt := rfl
@[push_cast] theorem e_l08Node__cal (z : Nat) : (e_l08Node_ z).cal = calOf [(85, sp_commentOK), (86, sp_unwB), (87, sp_allB), (88, sp_rawB), (89, sp_leftA), (35, (sp_sanT z))] := rfl
theorem c_l08Node_ (z : Nat) (h_sanT : CRow P0 ety0 35 (sp_sanT z)) : CRow P0 ety0 57 (sp_sanN z) := CRow.of (E := (e_l08Node_ z)) (mkOk (.cons c_commentOK2 (.cons c_unwB2 (.cons c_allB2 (.cons c_rawB (.cons c_l08Attrs (.cons h_sanT (.nil)))))))) func57 rfl rfl rfl (by
  intro args p r outs h hq
  simp only [sp_sanN] at h; split at h <;> cases h
  rename_i ha ht al re un ns dr co da k s m t b ks
  obtain ⟨hn, hz, hc, hok⟩ := hq _ rfl
  refine Body.intro (rs := [.tmp 4]) rfl rfl rfl ?_
  apply vc_run 1000 (stop := false) rfl; simp only [push_cast, reduceIte, Nat.reduceEqDiff, Nat.reduceAdd, Nat.reduceSub, Nat.reduceLT, Int.reduceNeg, Int.reduceLE, Int.reduceLT, Int.reduceToNat, Nat.reduceLeDiff, UInt8.reduceOfNat, UInt8.reduceOfNatLT, and_self, Nat.reduceMul, decide_true, decide_false, Bool.not_true, Bool.not_false, implies_true]
  have hS := sanN_mk ⟨ha, ht, al, re, un, ns, dr, co, da⟩ k s m t b ks
  have hsz := hz
  rw [szNd_mk] at hsz
  rw [hS]
  refine ⟨fun h2 => ?_, fun h2 => ⟨fun h3 => ⟨fun _ => ok_com hok (of_decide_eq_true h3), fun h4 => ?_, fun h4 => ?_⟩, fun h3 => ?_⟩⟩
  · rw [h2]; rfl
  · rw [h2, h3, cond_false, cond_true, show (!co || !commentOK t) = true by rw [← h4]; cases co <;> rfl]; rfl
  · rw [h2, h3, cond_false, cond_true, show (!co || !commentOK t) = false by rw [← h4]; cases co <;> rfl]; rfl
  obtain ⟨_, _, hat, _, hks⟩ := ok_el hok (of_decide_eq_false h2) (of_decide_eq_false h3)
  rw [h2, h3, cond_false, cond_false]
  refine ⟨hc, fun h4 => ⟨⟨hn, by omega, hc, hks⟩, by rw [h4]; rfl⟩, fun h4 => ⟨hc, fun _ => hz, fun h5 => ?_, fun h5 => ⟨⟨hc, hz, hat⟩, ⟨hn, by omega, hc, hks⟩, ?_⟩⟩⟩
  · rw [h4, cond_false, show (!allB ⟨ha, ht, al, re, un, ns, dr, co, da⟩ s m || rawB (.mk k s m t b ks)) = true by rw [← h5]; cases allB ⟨ha, ht, al, re, un, ns, dr, co, da⟩ s m <;> rfl]; rfl
  · rw [h4, cond_false, show (!allB ⟨ha, ht, al, re, un, ns, dr, co, da⟩ s m || rawB (.mk k s m t b ks)) = false by rw [← h5]; cases allB ⟨ha, ht, al, re, un, ns, dr, co, da⟩ s m <;> rfl]; rfl)
noncomputable def e_l08Tree_ (z : Nat) : Env := mk [(57, (sp_sanN z))] [(5, [6, 7], [[1]])] [] [] none
@[push_cast] theorem e_l08Tree__in (z : Nat) : (e_l08Tree_ z).inl = inlF [] := rfl
@[push_cast] theorem e_l08Tree__fn (z : Nat) : (e_l08Tree_ z).fnd = fndF none := rfl
@[push_cast] theorem e_l08Tree__gh (z : Nat) : (e_l08Tree_ z).gh = ghOf [] := rfl
@[push_cast] theorem e_l08Tree__dr (z : Nat) : (e_l08Tree_ z).dr = drOf [(5, [6, 7], [[1]])] := rfl
@[push_cast] theorem e_l08Tree__td (z : Nat) : (e_l08Tree_ z).td = td := rfl
@[push_cast] theorem e_l08Tree__eqt (z : Nat) : (e_l08Tree_ z).eqt = eqt := rfl
@[push_cast] theorem e_l08Tree__cal (z : Nat) : (e_l08Tree_ z).cal = calOf [(57, (sp_sanN z))] := rfl
theorem c_l08Tree_ (z : Nat) (h_sanN : CRow P0 ety0 57 (sp_sanN z)) : CRow P0 ety0 35 (sp_sanT (z+1)) := CRow.of (E := (e_l08Tree_ z)) (mkOk (.cons h_sanN (.nil))) func35 rfl rfl rfl (by
  intro args p r outs h hq
  simp only [sp_sanT] at h; split at h <;> cases h
  rename_i ha ht al re un ns dr co da l
  obtain ⟨hn, hz, hc, hok⟩ := hq _ rfl
  have hl := szL_len szNd l
  refine Body.intro (rs := [.tmp 4]) rfl rfl rfl ?_
  apply vc_run 1000 (stop := false) rfl; simp only [push_cast, reduceIte, Nat.reduceEqDiff, Nat.reduceAdd, Nat.reduceSub, Nat.reduceLT, Int.reduceNeg, Int.reduceLE, Int.reduceLT, Int.reduceToNat, Nat.reduceLeDiff, UInt8.reduceOfNat, UInt8.reduceOfNatLT, and_self, Nat.reduceMul, decide_true, decide_false, Bool.not_true, Bool.not_false, implies_true]
  refine Run.loop [5, 6] [1, 2] [0] rfl (fun n vs bs => ∃ j : Nat, vs = [.own true ⟨.node, sanT ⟨ha, ht, al, re, un, ns, dr, co, da⟩ (l.take j)⟩, .int .i64 j] ∧ bs = [[.bool ha, .bool ht, .dat ⟨.rule, al⟩, .dat ⟨.rule, re⟩, .dat ⟨.rule, un⟩, .dat ⟨.str, ns⟩, .dat ⟨.str, dr⟩, .bool co, .bool da]] ∧ j ≤ l.length ∧ n = l.length - j) l.length ?_ ?_
  · simp only [push_cast, reduceIte, Nat.reduceEqDiff, Nat.reduceAdd, Nat.reduceSub, Nat.reduceLT, Int.reduceNeg, Int.reduceLE, Int.reduceLT, Int.reduceToNat, Nat.reduceLeDiff, UInt8.reduceOfNat, UInt8.reduceOfNatLT, and_self, Nat.reduceMul, decide_true, decide_false, Bool.not_true, Bool.not_false, implies_true]
    exact ⟨0, rfl, by omega, by omega⟩
  rintro n vs bs ⟨j, rfl, rfl, hj, rfl⟩
  simp only [push_cast, reduceIte, Nat.reduceEqDiff, Nat.reduceAdd, Nat.reduceSub, Nat.reduceLT, Int.reduceNeg, Int.reduceLE, Int.reduceLT, Int.reduceToNat, Nat.reduceLeDiff, UInt8.reduceOfNat, UInt8.reduceOfNatLT, and_self, Nat.reduceMul, decide_true, decide_false, Bool.not_true, Bool.not_false, implies_true]
  apply vc_run 1000 (stop := false) rfl; simp only [push_cast, reduceIte, Nat.reduceEqDiff, Nat.reduceAdd, Nat.reduceSub, Nat.reduceLT, Int.reduceNeg, Int.reduceLE, Int.reduceLT, Int.reduceToNat, Nat.reduceLeDiff, UInt8.reduceOfNat, UInt8.reduceOfNatLT, and_self, Nat.reduceMul, decide_true, decide_false, Bool.not_true, Bool.not_false, implies_true]
  refine ⟨fun hlt => ?_, fun hge => ?_⟩
  · have hlt : j < l.length := Int.ofNat_lt.1 (of_decide_eq_true hlt)
    have hel := szL_at szNd nodeD hlt
    have hokj := fit_at (d := nodeD) ((okNds_iff l).1 hok) hlt
    have hst := sanT_take ⟨ha, ht, al, re, un, ns, dr, co, da⟩ hlt
    have hs1 := sanT_take_sz ⟨ha, ht, al, re, un, ns, dr, co, da⟩ l (j + 1)
    rw [hst, szNds_append, szNds_eq, szNds_eq, szNds_eq] at hs1
    have hl1 := szL_len szNd (sanT ⟨ha, ht, al, re, un, ns, dr, co, da⟩ (l.take j))
    have hl2 := szL_len szNd (sanN ⟨ha, ht, al, re, un, ns, dr, co, da⟩ (l.getD j nodeD))
    simp only [gd_nat]
    refine ⟨by omega, ⟨kid_lt hn hlt, by omega, hc, hokj⟩, by unfold sizeOk; omega, by constructor <;> omega, _, ?_, j + 1, by rw [hst]; rfl, by omega, rfl⟩
    omega
  · have hge : j = l.length := by have := of_decide_eq_false hge; omega
    subst hge
    rw [List.take_length])
noncomputable def sp_sanA : Spec := ⟨[.st .cfg, .sl .node], [.rd, .rd], false, fun
  | [.agg [.bool ha, .bool ht, .dat ⟨.rule, al⟩, .dat ⟨.rule, re⟩, .dat ⟨.rule, un⟩, .dat ⟨.str, ns⟩, .dat ⟨.str, dr⟩, .bool co, .bool da], .dat ⟨.node, l⟩] => some (some (szL szNd l ≤ 1048576 ∧ szCfg ⟨ha, ht, al, re, un, ns, dr, co, da⟩ ≤ 1048576 ∧ okNds l), .own true ⟨.node, sanT ⟨ha, ht, al, re, un, ns, dr, co, da⟩ l⟩, [])
  | _ => none⟩
@[push_cast] theorem sp_sanA_ps : sp_sanA.ps = [.st .cfg, .sl .node] := rfl
@[push_cast] theorem sp_sanA_md : sp_sanA.modes = [.rd, .rd] := rfl
@[push_cast] theorem sp_sanA_pure : sp_sanA.pure = false := rfl
@[push_cast] theorem sp_sanA_run (ha ht : Bool) (al re un : List Rule) (ns dr : List Str) (co da : Bool) (l : List Node) : sp_sanA.run [.agg [.bool ha, .bool ht, .dat ⟨.rule, al⟩, .dat ⟨.rule, re⟩, .dat ⟨.rule, un⟩, .dat ⟨.str, ns⟩, .dat ⟨.str, dr⟩, .bool co, .bool da], .dat ⟨.node, l⟩] = some (some (szL szNd l ≤ 1048576 ∧ szCfg ⟨ha, ht, al, re, un, ns, dr, co, da⟩ ≤ 1048576 ∧ okNds l), .own true ⟨.node, sanT ⟨ha, ht, al, re, un, ns, dr, co, da⟩ l⟩, []) := rfl
theorem r_sanT : ∀ z, CRow P0 ety0 35 (sp_sanT z)
  | 0 => .absurd (fun args p r outs h hq => by
      simp only [sp_sanT] at h; split at h <;> cases h
      exact absurd (hq _ rfl).1 (Nat.not_lt_zero _)) (ent_of func35 rfl rfl)
  | z + 1 => c_l08Tree_ z (c_l08Node_ z (r_sanT z))
theorem c_l08Tree : CRow P0 ety0 35 sp_sanA := .all (spn := sp_sanT) (fun _ => rfl) r_sanT (fun args p r outs h hq => by
  simp only [sp_sanA] at h; split at h <;> cases h
  rename_i l
  exact ⟨szNds l + 1, _, rfl, fun q hq' => by cases hq'; exact ⟨Nat.lt_succ_self _, hq _ rfl⟩⟩)
theorem hasC_append (a b : Str) (c : UInt8) : hasC (a ++ b) c = (hasC a c || hasC b c) := by simp [hasC]
theorem texts_mark : ∀ ks : List Node, okNds ks → (∀ x ∈ ks, x.kind = 2) → ks.any markN = hasC (textT ks) 60
  | [], _, _ => rfl
  | .mk k s m t a ks :: r, h, h2 => by
    rw [okNds, okNd_mk] at h
    have hk : k = 2 := h2 _ List.mem_cons_self
    have ih := texts_mark r h.2 fun x hx => h2 x (List.mem_cons_of_mem _ hx)
    rcases h.1 with h1 | h1
    · have e : ks = [] := h1.2.2.2.2.1
      rw [List.any_cons, ih, textT, textN, decide_eq_true hk, cond_true, hasC_append, e, textT, List.append_nil]
      rfl
    · exact absurd h1.1 (by omega)
theorem texts_len {ks : List Node} (h : okNds ks) (h2 : ∀ x ∈ ks, x.kind = 2) : ∀ x ∈ ks, x.text.length ≤ 65536 := fun x hx => by
  have h1 := (okNds_iff _).1 h x hx
  have hk := h2 x hx
  cases x with
  | mk k s m t a ks =>
    rw [okNd_mk] at h1
    rcases h1 with h1 | h1
    · exact h1.2.2.2.2.2
    · exact absurd h1.1 (by have hk : k = 2 := hk; omega)
theorem com_yes : ∀ a b : Bool, (bif false then true else bif bif true then a else false then b else false) = true → (!a || !b) = false := by decide
theorem com_no : ∀ a b : Bool, (bif false then true else bif bif true then a else false then b else false) = false → (!a || !b) = true := by decide
/-- Both sides' question of raw elements. -/
theorem raw_mark {k s : Int} {m t : Str} {b : List Attr} {ks : List Node} (hk : k = 1) (hr : s = 0 ∧ isRawS m = true → ∀ x ∈ ks, x.kind = 2) (hks : okNds ks) :
    (bif isEl0 (.mk k s m t b ks) && isRawS m then ks.any markN else false) = rawB (.mk k s m t b ks) := by
  have e1 : isEl0 (.mk k s m t b ks) = decide (s = 0) := by
    show (decide (k = 1) && decide (s = 0)) = _
    rw [decide_eq_true hk, Bool.true_and]
  have e2 : rawB (.mk k s m t b ks) = (decide (s = 0) && isRawS m && hasC (textT ks) 60) := rfl
  rw [e1, e2]
  by_cases hs : s = 0
  · cases hm : isRawS m with
    | false => simp
    | true => rw [decide_eq_true hs, texts_mark ks hks (hr ⟨hs, hm⟩)]; rfl
  · rw [decide_eq_false hs]; rfl
noncomputable def e_sanit_ (z : Nat) : Env := mk [(64, sp_commentOK), (65, sp_cloned), (66, sp_unwB), (67, sp_allB), (68, sp_rawNd), (69, sp_marks), (70, sp_delA), (41, (sp_sanI z))] [] [] [] none
@[push_cast] theorem e_sanit__in (z : Nat) : (e_sanit_ z).inl = inlF [] := rfl
@[push_cast] theorem e_sanit__fn (z : Nat) : (e_sanit_ z).fnd = fndF none := rfl
@[push_cast] theorem e_sanit__gh (z : Nat) : (e_sanit_ z).gh = ghOf [] := rfl
@[push_cast] theorem e_sanit__dr (z : Nat) : (e_sanit_ z).dr = drOf [] := rfl
@[push_cast] theorem e_sanit__td (z : Nat) : (e_sanit_ z).td = td := rfl
@[push_cast] theorem e_sanit__eqt (z : Nat) : (e_sanit_ z).eqt = eqt := rfl
@[push_cast] theorem e_sanit__cal (z : Nat) : (e_sanit_ z).cal = calOf [(64, sp_commentOK), (65, sp_cloned), (66, sp_unwB), (67, sp_allB), (68, sp_rawNd), (69, sp_marks), (70, sp_delA), (41, (sp_sanI z))] := rfl
theorem c_sanit_ (z : Nat) (h_sanI : CRow P0 ety0 41 (sp_sanI z)) : CRow P0 ety0 41 (sp_sanI (z+1)) := CRow.of (E := (e_sanit_ z)) (mkOk (.cons c_commentOK (.cons c_cloned (.cons c_unwB (.cons c_allB (.cons c_rawNd (.cons c_marks (.cons c_delA (.cons h_sanI (.nil)))))))))) func41 rfl rfl rfl (by
  intro args p r outs h hq
  simp only [sp_sanI] at h; split at h <;> cases h
  rename_i ha ht al re un ns dr co da l
  obtain ⟨hn, hz, hc, hok⟩ := hq _ rfl
  have hl := szL_len szNd l
  refine Body.intro (rs := [.tmp 4]) rfl rfl rfl ?_
  apply vc_run 1000 (stop := false) rfl; simp only [push_cast, reduceIte, Nat.reduceEqDiff, Nat.reduceAdd, Nat.reduceSub, Nat.reduceLT, Int.reduceNeg, Int.reduceLE, Int.reduceLT, Int.reduceToNat, Nat.reduceLeDiff, UInt8.reduceOfNat, UInt8.reduceOfNatLT, and_self, Nat.reduceMul, decide_true, decide_false, Bool.not_true, Bool.not_false, implies_true]
  refine Run.loop [5, 12] [2, 10, 11] [0] rfl (fun n vs bs => ∃ j : Nat, vs = [.own true ⟨.node, sanT ⟨ha, ht, al, re, un, ns, dr, co, da⟩ (l.take j)⟩, .int .i64 j] ∧ bs = [[.bool ha, .bool ht, .dat ⟨.rule, al⟩, .dat ⟨.rule, re⟩, .dat ⟨.rule, un⟩, .dat ⟨.str, ns⟩, .dat ⟨.str, dr⟩, .bool co, .bool da]] ∧ j ≤ l.length ∧ n = l.length - j) l.length ?_ ?_
  · simp only [push_cast, reduceIte, Nat.reduceEqDiff, Nat.reduceAdd, Nat.reduceSub, Nat.reduceLT, Int.reduceNeg, Int.reduceLE, Int.reduceLT, Int.reduceToNat, Nat.reduceLeDiff, UInt8.reduceOfNat, UInt8.reduceOfNatLT, and_self, Nat.reduceMul, decide_true, decide_false, Bool.not_true, Bool.not_false, implies_true]
    exact ⟨0, rfl, by omega, by omega⟩
  rintro n vs bs ⟨j, rfl, rfl, hj, rfl⟩
  simp only [push_cast, reduceIte, Nat.reduceEqDiff, Nat.reduceAdd, Nat.reduceSub, Nat.reduceLT, Int.reduceNeg, Int.reduceLE, Int.reduceLT, Int.reduceToNat, Nat.reduceLeDiff, UInt8.reduceOfNat, UInt8.reduceOfNatLT, and_self, Nat.reduceMul, decide_true, decide_false, Bool.not_true, Bool.not_false, implies_true]
  apply vc_run 1000 (stop := false) rfl; simp only [push_cast, reduceIte, Nat.reduceEqDiff, Nat.reduceAdd, Nat.reduceSub, Nat.reduceLT, Int.reduceNeg, Int.reduceLE, Int.reduceLT, Int.reduceToNat, Nat.reduceLeDiff, UInt8.reduceOfNat, UInt8.reduceOfNatLT, and_self, Nat.reduceMul, decide_true, decide_false, Bool.not_true, Bool.not_false, implies_true]
  refine ⟨fun hlt => ?_, fun hge => ?_⟩
  rotate_left
  · have hge : j = l.length := by have := of_decide_eq_false hge; omega
    subst hge
    rw [List.take_length]
  have hlt : j < l.length := Int.ofNat_lt.1 (of_decide_eq_true hlt)
  have hel := szL_at szNd nodeD hlt
  have hokj := fit_at (d := nodeD) ((okNds_iff l).1 hok) hlt
  have hst := sanT_take ⟨ha, ht, al, re, un, ns, dr, co, da⟩ hlt
  have hs1 := sanT_take_sz ⟨ha, ht, al, re, un, ns, dr, co, da⟩ l (j + 1)
  rw [hst, szNds_append, szNds_eq, szNds_eq, szNds_eq] at hs1
  have hl1 := szL_len szNd (sanT ⟨ha, ht, al, re, un, ns, dr, co, da⟩ (l.take j))
  have hl2 := szL_len szNd (sanN ⟨ha, ht, al, re, un, ns, dr, co, da⟩ (l.getD j nodeD))
  have hkid := kid_lt hn hlt
  have hfin : ∀ tl, sanN ⟨ha, ht, al, re, un, ns, dr, co, da⟩ (l.getD j nodeD) = tl → i64ok ((j : Int) + 1) ∧ ∃ j_1, j_1 < l.length - j ∧ ∃ j_2 : Nat, [AV.own true ⟨.node, sanT ⟨ha, ht, al, re, un, ns, dr, co, da⟩ (l.take j) ++ tl⟩, .int .i64 ((j : Int) + 1)] = [AV.own true ⟨.node, sanT ⟨ha, ht, al, re, un, ns, dr, co, da⟩ (l.take j_2)⟩, .int .i64 (j_2 : Nat)] ∧ j_2 ≤ l.length ∧ j_1 = l.length - j_2 := fun tl e => by
    refine ⟨by constructor <;> omega, _, ?_, j + 1, by rw [hst, e]; rfl, by omega, rfl⟩
    omega
  have hfin0 : sanN ⟨ha, ht, al, re, un, ns, dr, co, da⟩ (l.getD j nodeD) = [] → i64ok ((j : Int) + 1) ∧ ∃ j_1, j_1 < l.length - j ∧ ∃ j_2 : Nat, [AV.own true ⟨.node, sanT ⟨ha, ht, al, re, un, ns, dr, co, da⟩ (l.take j)⟩, .int .i64 ((j : Int) + 1)] = [AV.own true ⟨.node, sanT ⟨ha, ht, al, re, un, ns, dr, co, da⟩ (l.take j_2)⟩, .int .i64 (j_2 : Nat)] ∧ j_2 ≤ l.length ∧ j_1 = l.length - j_2 := fun e => by
    have := hfin [] e
    rwa [List.append_nil] at this
  simp only [gd_nat]
  generalize hX : l.getD j nodeD = X at *
  cases X with
  | mk k s m t b ks =>
  have hS := sanN_mk ⟨ha, ht, al, re, un, ns, dr, co, da⟩ k s m t b ks
  have hsz := szNd_mk k s m t b ks
  have hbl := szL_len szAt b
  have hkl := szL_len szNd ks
  have hkl2 := sanT_sz ⟨ha, ht, al, re, un, ns, dr, co, da⟩ ks
  have hkl3 := szL_len szNd (sanT ⟨ha, ht, al, re, un, ns, dr, co, da⟩ ks)
  rw [szNds_eq, szNds_eq] at hkl2
  refine ⟨by omega, fun h => ?_, fun h => ⟨by omega, by unfold sizeOk; omega, hfin _ ?_⟩, fun h => ⟨fun h3 => hfin0 ?_, fun h3 => ?_⟩⟩
  · refine ok_com hokj ?_
    have := h.2
    revert this
    show (bif decide (k = 3) then co else false) = true → k = 3
    by_cases h3 : k = 3
    · exact fun _ => h3
    · rw [decide_eq_false h3]; intro h; cases h
  · -- what is copied
    rw [hS]
    have hcnd : (bif decide (k = 2) then true else bif bif decide (k = 3) then co else false then commentOK t else false) = true := h
    clear h
    rw [okNd_mk] at hokj
    by_cases h2 : k = 2
    · rcases hokj with ⟨_, rfl, rfl, rfl, rfl, _⟩ | h1
      · rw [decide_eq_true h2]; rfl
      · exact absurd h1.1 (by omega)
    · rw [decide_eq_false h2] at hcnd
      by_cases h3 : k = 3
      · rw [decide_eq_true h3] at hcnd
        rcases hokj with ⟨_, rfl, rfl, rfl, rfl, _⟩ | h1
        · rw [decide_eq_false h2, decide_eq_true h3]
          have : (!co || !commentOK t) = false := com_yes _ _ hcnd
          show (bif (!co || !commentOK t) then _ else _) = _
          rw [this]; rfl
        · exact absurd h1.1 (by omega)
      · rw [decide_eq_false h3] at hcnd; cases hcnd
  · -- a comment that goes
    rw [hS]
    have h : (bif decide (k = 2) then true else bif bif decide (k = 3) then co else false then commentOK t else false) = false := h
    have h3 : decide (k = 3) = true := h3
    rw [h3] at h ⊢
    have h2 : decide (k = 2) = false := by revert h; cases decide (k = 2) <;> simp
    rw [h2] at h ⊢
    have : (!co || !commentOK t) = true := com_no _ _ h
    show (bif (!co || !commentOK t) then _ else _) = _
    rw [this]; rfl
  -- an element
  have h : (bif decide (k = 2) then true else bif bif decide (k = 3) then co else false then commentOK t else false) = false := h
  have h3 : decide (k = 3) = false := h3
  have h2 : decide (k = 2) = false := by revert h; cases decide (k = 2) <;> simp
  obtain ⟨hk1, ht1, hat, hraw, hks⟩ := ok_el hokj (of_decide_eq_false h2) (of_decide_eq_false h3)
  have hrm := raw_mark (t := t) (b := b) hk1 hraw hks
  rw [h2, h3, cond_false, cond_false] at hS
  refine ⟨hc, fun h4 => ⟨⟨hkid, by show szL szNd ks ≤ 1048576; omega, hc, hks⟩, ?_, hfin _ ?_⟩, fun h4 => ⟨hc, fun h5 => ⟨?_, texts_len hks (hraw ?_)⟩, fun h5 => ⟨by omega, ⟨by show b.length ≤ _; omega, hc, hat⟩, ⟨hkid, by show szL szNd ks ≤ 1048576; omega, hc, hks⟩, by unfold sizeOk; omega, hfin _ ?_⟩, fun h5 => hfin0 ?_⟩⟩
  · show sizeOk ((sanT ⟨ha, ht, al, re, un, ns, dr, co, da⟩ (l.take j)).length + (sanT ⟨ha, ht, al, re, un, ns, dr, co, da⟩ ks).length)
    unfold sizeOk; omega
  · have h4 : unwB ⟨ha, ht, al, re, un, ns, dr, co, da⟩ s m = true := h4
    rw [hS, h4]; rfl
  · show ks.length ≤ _; omega
  · have h6 : (decide (k = 1) && decide (s = 0)) = true := h5.2.1
    rw [Bool.and_eq_true] at h6
    exact ⟨of_decide_eq_true h6.2, h5.2.2⟩
  · have h4 : unwB ⟨ha, ht, al, re, un, ns, dr, co, da⟩ s m = false := h4
    have h5 : (bif allB ⟨ha, ht, al, re, un, ns, dr, co, da⟩ s m then !bif isEl0 (.mk k s m t b ks) && isRawS m then ks.any markN else false else false) = true := h5
    rw [hrm] at h5
    have : (!allB ⟨ha, ht, al, re, un, ns, dr, co, da⟩ s m || rawB (.mk k s m t b ks)) = false := by revert h5; cases allB ⟨ha, ht, al, re, un, ns, dr, co, da⟩ s m <;> cases rawB (.mk k s m t b ks) <;> simp
    rw [hS, h4, this, ht1]; rfl
  · have h4 : unwB ⟨ha, ht, al, re, un, ns, dr, co, da⟩ s m = false := h4
    have h5 : (bif allB ⟨ha, ht, al, re, un, ns, dr, co, da⟩ s m then !bif isEl0 (.mk k s m t b ks) && isRawS m then ks.any markN else false else false) = false := h5
    rw [hrm] at h5
    have : (!allB ⟨ha, ht, al, re, un, ns, dr, co, da⟩ s m || rawB (.mk k s m t b ks)) = true := by revert h5; cases allB ⟨ha, ht, al, re, un, ns, dr, co, da⟩ s m <;> cases rawB (.mk k s m t b ks) <;> simp
    rw [hS, h4, this]; rfl)
theorem r_sanI : ∀ z, CRow P0 ety0 41 (sp_sanI z)
  | 0 => .absurd (fun args p r outs h hq => by
      simp only [sp_sanI] at h; split at h <;> cases h
      exact absurd (hq _ rfl).1 (Nat.not_lt_zero _)) (ent_of func41 rfl rfl)
  | z + 1 => c_sanit_ z (r_sanI z)
theorem c_sanitA : CRow P0 ety0 41 sp_sanA := .all (spn := sp_sanI) (fun _ => rfl) r_sanI (fun args p r outs h hq => by
  simp only [sp_sanA] at h; split at h <;> cases h
  rename_i l
  exact ⟨szNds l + 1, _, rfl, fun q hq' => by cases hq'; exact ⟨Nat.lt_succ_self _, hq _ rfl⟩⟩)
end Go.Ab
