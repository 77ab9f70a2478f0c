/- The names of a tree's elements. -/
import Derived.Test.YtnnbjffppfagkaaGreatFnN
import Derived.Test.YtnnbjffppfagkaaGreatFnD
set_option linter.all false
set_option linter.unusedSimpArgs false
set_option linter.unusedVariables false
set_option linter.unusedSectionVars false
set_option maxRecDepth 20000
set_option maxHeartbeats 1000000
namespace Go.Ab
open Go Go.Proofs.Tryz
def addN (acc : List Str) (k : Int) (m : Str) : List Str := bif decide (k = 1) && !hasS acc m then acc ++ [m] else acc
mutual
def nmN : Node → List Str → List Str
  | .mk k _ m _ _ ks, acc => nmT ks (addN acc k m)
def nmT : List Node → List Str → List Str
  | [], acc => acc
  | x :: r, acc => nmT r (nmN x acc)
end
theorem nmN_eq (x : Node) (acc : List Str) : nmN x acc = nmT x.kids (addN acc x.kind x.name) := by cases x; rw [nmN]; rfl
theorem nmT_append (l r : List Node) (acc : List Str) : nmT (l ++ r) acc = nmT r (nmT l acc) := by
  induction l generalizing acc with
  | nil => simp [nmT]
  | cons x l ih => rw [List.cons_append, nmT, nmT, ih]
theorem nmT_take {l : List Node} {j : Nat} (h : j < l.length) (acc : List Str) : nmT (l.take (j + 1)) acc = nmT (l.getD j nodeD).kids (addN (nmT (l.take j) acc) (l.getD j nodeD).kind (l.getD j nodeD).name) := by
  rw [List.take_succ_eq_append_getElem h, nmT_append]
  have e : l.getD j nodeD = l[j] := by simp [List.getD, h]
  rw [e, nmT, nmT, nmN_eq]
theorem addN_len (acc : List Str) (k : Int) (m : Str) : (addN acc k m).length ≤ acc.length + 1 := by
  unfold addN
  cases (decide (k = 1) && !hasS acc m)
  · exact Nat.le_succ _
  · rw [cond_true, List.length_append]; exact Nat.le_refl _
mutual
theorem nmN_len : ∀ (x : Node) (acc : List Str), (nmN x acc).length ≤ acc.length + cntNd x
  | .mk k s m t a ks, acc => by
    have h := nmT_len ks (addN acc k m)
    have h2 := addN_len acc k m
    rw [nmN, cntNd]; omega
theorem nmT_len : ∀ (l : List Node) (acc : List Str), (nmT l acc).length ≤ acc.length + cntNds l
  | [], acc => by rw [nmT]; omega
  | x :: r, acc => by
    have h1 := nmN_len x acc
    have h2 := nmT_len r (nmN x acc)
    rw [nmT, cntNds]; omega
end
theorem szS_app (a b : List Str) : szL List.length (a ++ b) = szL List.length a + szL List.length b := by
  simp only [szL, sumL, List.length_append, List.map_append, List.sum_append]; omega
theorem addN_szS (acc : List Str) (k : Int) (m : Str) : szL List.length (addN acc k m) ≤ szL List.length acc + 1 + m.length := by
  unfold addN
  cases (decide (k = 1) && !hasS acc m)
  · rw [cond_false]; omega
  · rw [cond_true, szS_app]
    have : szL List.length [m] = 1 + m.length := by simp [szL, sumL]
    omega
mutual
theorem nmN_szS : ∀ (x : Node) (acc : List Str), szL List.length (nmN x acc) ≤ szL List.length acc + 1 + szNd x
  | .mk k s m t a ks, acc => by
    have h := nmT_szS ks (addN acc k m)
    have h2 := addN_szS acc k m
    rw [nmN, szNd]; omega
theorem nmT_szS : ∀ (l : List Node) (acc : List Str), szL List.length (nmT l acc) ≤ szL List.length acc + szNds l
  | [], acc => by rw [nmT]; omega
  | x :: r, acc => by
    have h1 := nmN_szS x acc
    have h2 := nmT_szS r (nmN x acc)
    rw [nmT, szNds]; omega
end
noncomputable def sp_name1 : Spec := ⟨[.st .node, .sl .int, .sc], [.rd, .rd, .io], false, fun
  | [.agg [.int .i64 k, .int .i64 s, .str m, .str t, .dat ⟨.attr, b⟩, .dat ⟨.node, ks⟩], .dat ⟨.int, p⟩, .pb [.own true ⟨.str, acc⟩]] => some (some (acc.length ≤ 1073741000), .tup [], [.pb [.own true ⟨.str, addN acc k m⟩]])
  | _ => none⟩
@[push_cast] theorem sp_name1_ps : sp_name1.ps = [.st .node, .sl .int, .sc] := rfl
@[push_cast] theorem sp_name1_md : sp_name1.modes = [.rd, .rd, .io] := rfl
@[push_cast] theorem sp_name1_pure : sp_name1.pure = false := rfl
@[push_cast] theorem sp_name1_run (k s : Int) (m t : Str) (b : List Attr) (ks : List Node) (p : List Int) (acc : List Str) : sp_name1.run [.agg [.int .i64 k, .int .i64 s, .str m, .str t, .dat ⟨.attr, b⟩, .dat ⟨.node, ks⟩], .dat ⟨.int, p⟩, .pb [.own true ⟨.str, acc⟩]] = some (some (acc.length ≤ 1073741000), .tup [], [.pb [.own true ⟨.str, addN acc k m⟩]]) := rfl
noncomputable def e_name1 : Env := mk [(79, sp_hasS)] [] [] [] none
@[push_cast] theorem e_name1_in : e_name1.inl = inlF [] := rfl
@[push_cast] theorem e_name1_fn : e_name1.fnd = fndF none := rfl
@[push_cast] theorem e_name1_gh : e_name1.gh = ghOf [] := rfl
@[push_cast] theorem e_name1_dr : e_name1.dr = drOf [] := rfl
@[push_cast] theorem e_name1_td : e_name1.td = td := rfl
@[push_cast] theorem e_name1_eqt : e_name1.eqt = eqt := rfl
@[push_cast] theorem e_name1_cal : e_name1.cal = calOf [(79, sp_hasS)] := rfl
theorem c_name1 : CRow P0 ety0 78 sp_name1 := CRow.of (E := e_name1) (mkOk (.cons c_hasS (.nil))) func78 rfl rfl rfl (by
  intro args p r outs h hq
  simp only [sp_name1] at h; split at h <;> cases h
  rename_i k s m t b ks p acc
  have ha := hq _ rfl
  refine Body.intro (rs := []) rfl rfl rfl ?_
  apply vc_run 1000 (stop := false) rfl; simp only [push_cast, reduceIte, Nat.reduceEqDiff, Nat.reduceAdd, Nat.reduceSub, Nat.reduceLT, Int.reduceNeg, Int.reduceLE, Int.reduceLT, Int.reduceToNat, Nat.reduceLeDiff, UInt8.reduceOfNat, UInt8.reduceOfNatLT, and_self, Nat.reduceMul, decide_true, decide_false, Bool.not_true, Bool.not_false, implies_true]
  simp only [Bool.cond_false_right]
  refine ⟨fun _ => by omega, fun h => ⟨by unfold sizeOk; omega, ?_⟩, fun h => ?_⟩
  · rw [addN, h]; rfl
  · rw [addN, h]; rfl)
noncomputable def sp_eachN (z : Nat) : Spec := ⟨[.sl .node, .sl .int, .sc], [.rd, .rd, .io], false, fun
  | [.dat ⟨.node, l⟩, .dat ⟨.int, p⟩, .fn 78 [] [.pb [.own true ⟨.str, acc⟩]]] => some (some (szNds l < z ∧ szNds l ≤ 1048576 ∧ p.length + szNds l ≤ 536870912 ∧ acc.length + szNds l ≤ 536870912), .tup [], [.fn 78 [] [.pb [.own true ⟨.str, nmT l acc⟩]]])
  | _ => none⟩
@[push_cast] theorem sp_eachN_ps (z : Nat) : (sp_eachN z).ps = [.sl .node, .sl .int, .sc] := rfl
@[push_cast] theorem sp_eachN_md (z : Nat) : (sp_eachN z).modes = [.rd, .rd, .io] := rfl
@[push_cast] theorem sp_eachN_pure (z : Nat) : (sp_eachN z).pure = false := rfl
@[push_cast] theorem sp_eachN_run (z : Nat) (l : List Node) (p : List Int) (acc : List Str) : (sp_eachN z).run [.dat ⟨.node, l⟩, .dat ⟨.int, p⟩, .fn 78 [] [.pb [.own true ⟨.str, acc⟩]]] = some (some (szNds l < z ∧ szNds l ≤ 1048576 ∧ p.length + szNds l ≤ 536870912 ∧ acc.length + szNds l ≤ 536870912), .tup [], [.fn 78 [] [.pb [.own true ⟨.str, nmT l acc⟩]]]) := rfl
noncomputable def e_eachN_ (z : Nat) : Env := mk [(113, sp_cloneI), (78, sp_name1), (75, (sp_eachN z))] [] [] [] none
@[push_cast] theorem e_eachN__in (z : Nat) : (e_eachN_ z).inl = inlF [] := rfl
@[push_cast] theorem e_eachN__fn (z : Nat) : (e_eachN_ z).fnd = fndF none := rfl
@[push_cast] theorem e_eachN__gh (z : Nat) : (e_eachN_ z).gh = ghOf [] := rfl
@[push_cast] theorem e_eachN__dr (z : Nat) : (e_eachN_ z).dr = drOf [] := rfl
@[push_cast] theorem e_eachN__td (z : Nat) : (e_eachN_ z).td = td := rfl
@[push_cast] theorem e_eachN__eqt (z : Nat) : (e_eachN_ z).eqt = eqt := rfl
@[push_cast] theorem e_eachN__cal (z : Nat) : (e_eachN_ z).cal = calOf [(113, sp_cloneI), (78, sp_name1), (75, (sp_eachN z))] := rfl
theorem c_eachN_ (z : Nat) (h_eachN : CRow P0 ety0 75 (sp_eachN z)) : CRow P0 ety0 75 (sp_eachN (z+1)) := CRow.of (E := (e_eachN_ z)) (mkOk (.cons c_cloneI (.cons c_name1 (.cons h_eachN (.nil))))) func75 rfl rfl rfl (by
  intro args p r outs h hq
  simp only [sp_eachN] at h; split at h <;> cases h
  rename_i l p acc
  obtain ⟨hn, hz, hp, ha⟩ := hq _ rfl
  have hl := szL_len szNd l
  rw [← szNds_eq] at hl
  refine Body.intro (rs := []) rfl rfl rfl ?_
  apply vc_run 1000 (stop := false) rfl; simp only [push_cast, reduceIte, Nat.reduceEqDiff, Nat.reduceAdd, Nat.reduceSub, Nat.reduceLT, Int.reduceNeg, Int.reduceLE, Int.reduceLT, Int.reduceToNat, Nat.reduceLeDiff, UInt8.reduceOfNat, UInt8.reduceOfNatLT, and_self, Nat.reduceMul, decide_true, decide_false, Bool.not_true, Bool.not_false, implies_true]
  refine Run.loop [11] [1, 2, 9, 10] [0] rfl (fun m vs bs => ∃ j : Nat, vs = [.int .i64 j] ∧ bs = [[.own true ⟨.str, nmT (l.take j) acc⟩]] ∧ j ≤ l.length ∧ m = l.length - j) l.length ?_ ?_
  · simp only [push_cast, reduceIte, Nat.reduceEqDiff, Nat.reduceAdd, Nat.reduceSub, Nat.reduceLT, Int.reduceNeg, Int.reduceLE, Int.reduceLT, Int.reduceToNat, Nat.reduceLeDiff, UInt8.reduceOfNat, UInt8.reduceOfNatLT, and_self, Nat.reduceMul, decide_true, decide_false, Bool.not_true, Bool.not_false, implies_true]
    exact ⟨0, rfl, by simp [nmT], by omega, by omega⟩
  rintro m vs bs ⟨j, rfl, rfl, hj, rfl⟩
  simp only [push_cast, reduceIte, Nat.reduceEqDiff, Nat.reduceAdd, Nat.reduceSub, Nat.reduceLT, Int.reduceNeg, Int.reduceLE, Int.reduceLT, Int.reduceToNat, Nat.reduceLeDiff, UInt8.reduceOfNat, UInt8.reduceOfNatLT, and_self, Nat.reduceMul, decide_true, decide_false, Bool.not_true, Bool.not_false, implies_true]
  apply vc_run 1000 (stop := false) rfl; simp only [push_cast, reduceIte, Nat.reduceEqDiff, Nat.reduceAdd, Nat.reduceSub, Nat.reduceLT, Int.reduceNeg, Int.reduceLE, Int.reduceLT, Int.reduceToNat, Nat.reduceLeDiff, UInt8.reduceOfNat, UInt8.reduceOfNatLT, and_self, Nat.reduceMul, decide_true, decide_false, Bool.not_true, Bool.not_false, implies_true]
  refine ⟨fun hlt => ?_, fun hge => ?_⟩
  · have hlt : j < l.length := Int.ofNat_lt.1 (of_decide_eq_true hlt)
    have hft := nmT_take hlt acc
    obtain ⟨hs1, hs2⟩ := szNds_step hlt
    have hk1 := szNds_kids (l.getD j nodeD)
    have hfj := nmT_len (l.take j) acc
    have hcj := cntNds_sz (l.take j)
    have hal := addN_len (nmT (l.take j) acc) (l.getD j nodeD).kind (l.getD j nodeD).name
    simp only [gd_nat]
    refine ⟨by omega, by omega, by unfold sizeOk; omega, by omega, ⟨kid_lt hn hlt, by omega, by omega, by omega⟩, by constructor <;> omega, _, ?_, j + 1, rfl, by rw [hft], by omega, rfl⟩
    omega
  · have hge : j = l.length := by have := of_decide_eq_false hge; omega
    subst hge
    rw [List.take_length])
noncomputable def sp_nameS (z : Nat) : Spec := ⟨[.sl .node, .sl .str], [.rd, .tk], false, fun
  | [.dat ⟨.node, l⟩, .own true ⟨.str, acc⟩] => some (some (szNds l < z ∧ szNds l ≤ 1048576 ∧ acc.length + szNds l ≤ 536870912), .own true ⟨.str, nmT l acc⟩, [])
  | _ => none⟩
@[push_cast] theorem sp_nameS_ps (z : Nat) : (sp_nameS z).ps = [.sl .node, .sl .str] := rfl
@[push_cast] theorem sp_nameS_md (z : Nat) : (sp_nameS z).modes = [.rd, .tk] := rfl
@[push_cast] theorem sp_nameS_pure (z : Nat) : (sp_nameS z).pure = false := rfl
@[push_cast] theorem sp_nameS_run (z : Nat) (l : List Node) (acc : List Str) : (sp_nameS z).run [.dat ⟨.node, l⟩, .own true ⟨.str, acc⟩] = some (some (szNds l < z ∧ szNds l ≤ 1048576 ∧ acc.length + szNds l ≤ 536870912), .own true ⟨.str, nmT l acc⟩, []) := rfl
noncomputable def e_l03Names_ (z : Nat) : Env := mk [(77, sp_hasS), (50, (sp_nameS z))] [] [] [] none
@[push_cast] theorem e_l03Names__in (z : Nat) : (e_l03Names_ z).inl = inlF [] := rfl
@[push_cast] theorem e_l03Names__fn (z : Nat) : (e_l03Names_ z).fnd = fndF none := rfl
@[push_cast] theorem e_l03Names__gh (z : Nat) : (e_l03Names_ z).gh = ghOf [] := rfl
@[push_cast] theorem e_l03Names__dr (z : Nat) : (e_l03Names_ z).dr = drOf [] := rfl
@[push_cast] theorem e_l03Names__td (z : Nat) : (e_l03Names_ z).td = td := rfl
@[push_cast] theorem e_l03Names__eqt (z : Nat) : (e_l03Names_ z).eqt = eqt := rfl
@[push_cast] theorem e_l03Names__cal (z : Nat) : (e_l03Names_ z).cal = calOf [(77, sp_hasS), (50, (sp_nameS z))] := rfl
theorem c_l03Names_ (z : Nat) (h_nameS : CRow P0 ety0 50 (sp_nameS z)) : CRow P0 ety0 50 (sp_nameS (z+1)) := CRow.of (E := (e_l03Names_ z)) (mkOk (.cons c_hasS2 (.cons h_nameS (.nil)))) func50 rfl rfl rfl (by
  intro args p r outs h hq
  simp only [sp_nameS] at h; split at h <;> cases h
  rename_i l acc
  obtain ⟨hn, hz, ha⟩ := hq _ rfl
  have hl := szL_len szNd l
  rw [← szNds_eq] at hl
  refine Body.intro (rs := [.tmp 4]) rfl rfl rfl ?_
  apply vc_run 1000 (stop := false) rfl; simp only [push_cast, reduceIte, Nat.reduceEqDiff, Nat.reduceAdd, Nat.reduceSub, Nat.reduceLT, Int.reduceNeg, Int.reduceLE, Int.reduceLT, Int.reduceToNat, Nat.reduceLeDiff, UInt8.reduceOfNat, UInt8.reduceOfNatLT, and_self, Nat.reduceMul, decide_true, decide_false, Bool.not_true, Bool.not_false, implies_true]
  refine Run.loop [1, 5] [0] [] rfl (fun m vs bs => ∃ j : Nat, vs = [.own true ⟨.str, nmT (l.take j) acc⟩, .int .i64 j] ∧ bs = [] ∧ j ≤ l.length ∧ m = l.length - j) l.length ?_ ?_
  · simp only [push_cast, reduceIte, Nat.reduceEqDiff, Nat.reduceAdd, Nat.reduceSub, Nat.reduceLT, Int.reduceNeg, Int.reduceLE, Int.reduceLT, Int.reduceToNat, Nat.reduceLeDiff, UInt8.reduceOfNat, UInt8.reduceOfNatLT, and_self, Nat.reduceMul, decide_true, decide_false, Bool.not_true, Bool.not_false, implies_true]
    exact ⟨0, by simp [nmT], by omega, by omega⟩
  rintro m vs bs ⟨j, rfl, rfl, hj, rfl⟩
  simp only [push_cast, reduceIte, Nat.reduceEqDiff, Nat.reduceAdd, Nat.reduceSub, Nat.reduceLT, Int.reduceNeg, Int.reduceLE, Int.reduceLT, Int.reduceToNat, Nat.reduceLeDiff, UInt8.reduceOfNat, UInt8.reduceOfNatLT, and_self, Nat.reduceMul, decide_true, decide_false, Bool.not_true, Bool.not_false, implies_true]
  apply vc_run 1000 (stop := false) rfl; simp only [push_cast, reduceIte, Nat.reduceEqDiff, Nat.reduceAdd, Nat.reduceSub, Nat.reduceLT, Int.reduceNeg, Int.reduceLE, Int.reduceLT, Int.reduceToNat, Nat.reduceLeDiff, UInt8.reduceOfNat, UInt8.reduceOfNatLT, and_self, Nat.reduceMul, decide_true, decide_false, Bool.not_true, Bool.not_false, implies_true]
  refine ⟨fun hlt => ?_, fun hge => ?_⟩
  · have hlt : j < l.length := Int.ofNat_lt.1 (of_decide_eq_true hlt)
    have hft := nmT_take hlt acc
    obtain ⟨hs1, hs2⟩ := szNds_step hlt
    have hk1 := szNds_kids (l.getD j nodeD)
    have hfj := nmT_len (l.take j) acc
    have hcj := cntNds_sz (l.take j)
    have hal := addN_len (nmT (l.take j) acc) (l.getD j nodeD).kind (l.getD j nodeD).name
    simp only [gd_nat, Bool.cond_false_right]
    have hA : addN (nmT (l.take j) acc) (l.getD j nodeD).kind (l.getD j nodeD).name = bif decide ((l.getD j nodeD).kind = 1) && !hasS (nmT (l.take j) acc) (l.getD j nodeD).name then nmT (l.take j) acc ++ [(l.getD j nodeD).name] else nmT (l.take j) acc := rfl
    rw [hA] at hft
    refine ⟨by omega, fun _ => by omega, fun _ => by omega, fun h => ?_, fun h => ?_⟩
    · rw [h, cond_true] at hft
      refine ⟨by omega, by unfold sizeOk; omega, by omega, ⟨kid_lt hn hlt, by omega, by omega⟩, by constructor <;> omega, _, ?_, j + 1, by rw [hft]; rfl, by omega, rfl⟩
      omega
    · rw [h, cond_false] at hft
      refine ⟨by omega, ⟨kid_lt hn hlt, by omega, by omega⟩, by constructor <;> omega, _, ?_, j + 1, by rw [hft]; rfl, by omega, rfl⟩
      omega
  · have hge : j = l.length := by have := of_decide_eq_false hge; omega
    subst hge
    rw [List.take_length])
noncomputable def sp_eachNA : Spec := ⟨[.sl .node, .sl .int, .sc], [.rd, .rd, .io], false, fun
  | [.dat ⟨.node, l⟩, .dat ⟨.int, p⟩, .fn 78 [] [.pb [.own true ⟨.str, acc⟩]]] => some (some (szNds l ≤ 1048576 ∧ p.length ≤ 1048576 ∧ acc.length ≤ 1048576), .tup [], [.fn 78 [] [.pb [.own true ⟨.str, nmT l acc⟩]]])
  | _ => none⟩
@[push_cast] theorem sp_eachNA_ps : sp_eachNA.ps = [.sl .node, .sl .int, .sc] := rfl
@[push_cast] theorem sp_eachNA_md : sp_eachNA.modes = [.rd, .rd, .io] := rfl
@[push_cast] theorem sp_eachNA_pure : sp_eachNA.pure = false := rfl
@[push_cast] theorem sp_eachNA_run (l : List Node) (p : List Int) (acc : List Str) : sp_eachNA.run [.dat ⟨.node, l⟩, .dat ⟨.int, p⟩, .fn 78 [] [.pb [.own true ⟨.str, acc⟩]]] = some (some (szNds l ≤ 1048576 ∧ p.length ≤ 1048576 ∧ acc.length ≤ 1048576), .tup [], [.fn 78 [] [.pb [.own true ⟨.str, nmT l acc⟩]]]) := rfl
theorem r_eachN : ∀ z, CRow P0 ety0 75 (sp_eachN z)
  | 0 => .absurd (fun args p r outs h hq => by
      simp only [sp_eachN] at h; split at h <;> cases h
      exact absurd (hq _ rfl).1 (Nat.not_lt_zero _)) (ent_of func75 rfl rfl)
  | z + 1 => c_eachN_ z (r_eachN z)
theorem c_eachNA : CRow P0 ety0 75 sp_eachNA := .all (spn := sp_eachN) (fun _ => rfl) r_eachN (fun args p r outs h hq => by
  simp only [sp_eachNA] at h; split at h <;> cases h
  rename_i l p acc
  obtain ⟨h1, h2, h3⟩ := hq _ rfl
  exact ⟨szNds l + 1, _, rfl, fun q hq' => by cases hq'; exact ⟨Nat.lt_succ_self _, h1, by omega, by omega⟩⟩)
noncomputable def sp_namesT : Spec := ⟨[.sl .node], [.rd], false, fun
  | [.dat ⟨.node, l⟩] => some (some (szL szNd l ≤ 1048576), .own true ⟨.str, nmT l []⟩, [])
  | _ => none⟩
@[push_cast] theorem sp_namesT_ps : sp_namesT.ps = [.sl .node] := rfl
@[push_cast] theorem sp_namesT_md : sp_namesT.modes = [.rd] := rfl
@[push_cast] theorem sp_namesT_pure : sp_namesT.pure = false := rfl
@[push_cast] theorem sp_namesT_run (l : List Node) : sp_namesT.run [.dat ⟨.node, l⟩] = some (some (szL szNd l ≤ 1048576), .own true ⟨.str, nmT l []⟩, []) := rfl
noncomputable def e_names : Env := mk [(75, sp_eachNA)] [] [] [] none
@[push_cast] theorem e_names_in : e_names.inl = inlF [] := rfl
@[push_cast] theorem e_names_fn : e_names.fnd = fndF none := rfl
@[push_cast] theorem e_names_gh : e_names.gh = ghOf [] := rfl
@[push_cast] theorem e_names_dr : e_names.dr = drOf [] := rfl
@[push_cast] theorem e_names_td : e_names.td = td := rfl
@[push_cast] theorem e_names_eqt : e_names.eqt = eqt := rfl
@[push_cast] theorem e_names_cal : e_names.cal = calOf [(75, sp_eachNA)] := rfl
theorem c_names : CRow P0 ety0 51 sp_namesT := CRow.of (E := e_names) (mkOk (.cons c_eachNA (.nil))) func51 rfl rfl rfl (by
  intro args p r outs h hq
  simp only [sp_namesT] at h; split at h <;> cases h
  rename_i l
  have hz := hq _ rfl
  rw [← szNds_eq] at hz
  refine Body.intro (rs := [.tmp 2]) rfl rfl rfl ?_
  apply vc_run 1000 (stop := false) rfl; simp only [push_cast, reduceIte, Nat.reduceEqDiff, Nat.reduceAdd, Nat.reduceSub, Nat.reduceLT, Int.reduceNeg, Int.reduceLE, Int.reduceLT, Int.reduceToNat, Nat.reduceLeDiff, UInt8.reduceOfNat, UInt8.reduceOfNatLT, and_self, Nat.reduceMul, decide_true, decide_false, Bool.not_true, Bool.not_false, implies_true]
  exact hz)
noncomputable def sp_namesA : Spec := ⟨[.sl .node, .sl .str], [.rd, .tk], false, fun
  | [.dat ⟨.node, l⟩, .own true ⟨.str, acc⟩] => some (some (szL szNd l ≤ 1048576 ∧ acc.length ≤ 1048576), .own true ⟨.str, nmT l acc⟩, [])
  | _ => none⟩
@[push_cast] theorem sp_namesA_ps : sp_namesA.ps = [.sl .node, .sl .str] := rfl
@[push_cast] theorem sp_namesA_md : sp_namesA.modes = [.rd, .tk] := rfl
@[push_cast] theorem sp_namesA_pure : sp_namesA.pure = false := rfl
@[push_cast] theorem sp_namesA_run (l : List Node) (acc : List Str) : sp_namesA.run [.dat ⟨.node, l⟩, .own true ⟨.str, acc⟩] = some (some (szL szNd l ≤ 1048576 ∧ acc.length ≤ 1048576), .own true ⟨.str, nmT l acc⟩, []) := rfl
theorem r_nameS : ∀ z, CRow P0 ety0 50 (sp_nameS z)
  | 0 => .absurd (fun args p r outs h hq => by
      simp only [sp_nameS] at h; split at h <;> cases h
      exact absurd (hq _ rfl).1 (Nat.not_lt_zero _)) (ent_of func50 rfl rfl)
  | z + 1 => c_l03Names_ z (r_nameS z)
theorem c_l03Names : CRow P0 ety0 50 sp_namesA := .all (spn := sp_nameS) (fun _ => rfl) r_nameS (fun args p r outs h hq => by
  simp only [sp_namesA] at h; split at h <;> cases h
  rename_i l acc
  obtain ⟨h1, h2⟩ := hq _ rfl
  rw [← szNds_eq] at h1
  exact ⟨szNds l + 1, _, rfl, fun q hq' => by cases hq'; exact ⟨Nat.lt_succ_self _, h1, by omega⟩⟩)
end Go.Ab
