/- The lines of a tree. -/
import Derived.Test.YtkandginbnlpcaaDoorFnN
import Derived.Test.YtkandginbnlpcaaDoorLibItoa
set_option linter.all false
set_option linter.unusedSimpArgs false
set_option linter.unusedVariables false
set_option linter.unusedSectionVars false
set_option maxRecDepth 20000
set_option maxHeartbeats 1000000
namespace Go.Ab
open Go Go.Proofs.Tryd
def lineN (k s : Int) (m t : Str) : Str := bif decide (k = 2) then [116, 101, 120, 116, 32] ++ t else bif decide (k = 3) then [99, 111, 109, 109, 101, 110, 116, 32] ++ t else [101, 108, 101, 109, 101, 110, 116, 32] ++ dg s ++ [32] ++ m
mutual
def flatN : Node → List Str
  | .mk k s m t _ ks => lineN k s m t :: flatT ks
def flatT : List Node → List Str
  | [] => []
  | x :: r => flatN x ++ flatT r
end
mutual
/-- The spaces of elements are small numbers. -/
def spNd : Node → Prop
  | .mk k s _ _ _ ks => (k = 2 ∨ k = 3 ∨ (0 ≤ s ∧ s < 100)) ∧ spNds ks
def spNds : List Node → Prop
  | [] => True
  | x :: r => spNd x ∧ spNds r
end
theorem spNds_iff (l : List Node) : spNds l ↔ ∀ x ∈ l, spNd x := by
  induction l with
  | nil => simp [spNds]
  | cons x r ih => rw [spNds, ih]; simp
theorem flatT_append (l r : List Node) : flatT (l ++ r) = flatT l ++ flatT r := by
  induction l with
  | nil => simp [flatT]
  | cons x l ih => rw [List.cons_append, flatT, flatT, ih, List.append_assoc]
theorem flatN_eq (x : Node) : flatN x = lineN x.kind x.space x.name x.text :: flatT x.kids := by cases x; rw [flatN]; rfl
theorem spNd_eq (x : Node) : spNd x ↔ (x.kind = 2 ∨ x.kind = 3 ∨ (0 ≤ x.space ∧ x.space < 100)) ∧ spNds x.kids := by cases x; rw [spNd]; rfl
theorem flatT_take {l : List Node} {j : Nat} (h : j < l.length) : flatT (l.take (j + 1)) = flatT (l.take j) ++ lineN (l.getD j nodeD).kind (l.getD j nodeD).space (l.getD j nodeD).name (l.getD j nodeD).text :: flatT (l.getD j nodeD).kids := by
  rw [List.take_succ_eq_append_getElem h, flatT_append]
  have e : l.getD j nodeD = l[j] := by simp [List.getD, h]
  rw [e, flatT, flatT, List.append_nil, flatN_eq]
mutual
theorem flatN_len : ∀ x : Node, (flatN x).length = cntNd x
  | .mk k s m t a ks => by rw [flatN, List.length_cons, flatT_len ks, cntNd]; omega
theorem flatT_len : ∀ l : List Node, (flatT l).length = cntNds l
  | [] => rfl
  | x :: r => by rw [flatT, List.length_append, flatN_len x, flatT_len r, cntNds]
end
mutual
theorem good_sp : ∀ (x : Node) (d : Int), goodNd x d = true → spNd x
  | .mk k s m t a ks, d, h => by
    rw [goodNd, Bool.and_eq_true, Bool.and_eq_true, Bool.and_eq_true] at h
    obtain ⟨⟨_, ho, _⟩, hk⟩ := h
    rw [spNd]
    refine ⟨?_, goods_sp ks _ hk⟩
    rw [ownNd_mk, Bool.or_eq_true] at ho
    rcases ho with ho | ho
    · simp only [Bool.and_eq_true, decide_eq_true_eq] at ho
      obtain ⟨hk1, ⟨⟨_, hw⟩, _⟩, _⟩ := ho
      rw [within, Bool.and_eq_true] at hw
      have h1 := of_decide_eq_true hw.1
      have h2 := of_decide_eq_true hw.2
      exact .inr (.inr ⟨h1, by omega⟩)
    · simp only [Bool.and_eq_true, Bool.or_eq_true, decide_eq_true_eq] at ho
      rcases ho.1 with h | h
      · exact .inl h
      · exact .inr (.inl h)
theorem goods_sp : ∀ (l : List Node) (d : Int), goodNds l d = true → spNds l
  | [], _, _ => trivial
  | x :: r, d, h => by
    rw [goodNds, Bool.and_eq_true] at h
    exact ⟨good_sp x d h.1, goods_sp r d h.2⟩
end
noncomputable def sp_flat1 : Spec := ⟨[.st .node, .sl .int, .sc], [.rd, .rd, .io], false, fun
  | [.agg [.int .i64 k, .int .i64 s, .str m, .str t, .dat ⟨.attr, b⟩, .dat ⟨.node, ks⟩], .dat ⟨.int, p⟩, .pb [.own true ⟨.str, acc⟩]] => some (some ((k = 2 ∨ k = 3 ∨ (0 ≤ s ∧ s < 100)) ∧ szNd (.mk k s m t b ks) ≤ 1048576 ∧ acc.length ≤ 1073741000), .tup [], [.pb [.own true ⟨.str, acc ++ [lineN k s m t]⟩]])
  | _ => none⟩
@[push_cast] theorem sp_flat1_ps : sp_flat1.ps = [.st .node, .sl .int, .sc] := rfl
@[push_cast] theorem sp_flat1_md : sp_flat1.modes = [.rd, .rd, .io] := rfl
@[push_cast] theorem sp_flat1_pure : sp_flat1.pure = false := rfl
@[push_cast] theorem sp_flat1_run (k s : Int) (m t : Str) (b : List Attr) (ks : List Node) (p : List Int) (acc : List Str) : sp_flat1.run [.agg [.int .i64 k, .int .i64 s, .str m, .str t, .dat ⟨.attr, b⟩, .dat ⟨.node, ks⟩], .dat ⟨.int, p⟩, .pb [.own true ⟨.str, acc⟩]] = some (some ((k = 2 ∨ k = 3 ∨ (0 ≤ s ∧ s < 100)) ∧ szNd (.mk k s m t b ks) ≤ 1048576 ∧ acc.length ≤ 1073741000), .tup [], [.pb [.own true ⟨.str, acc ++ [lineN k s m t]⟩]]) := rfl
noncomputable def e_flat1 : Env := mk [(29, sp_itoa)] [(2, [9, 10, 11], [[1]])] []
@[push_cast] theorem e_flat1_gh : e_flat1.gh = ghOf [] := rfl
@[push_cast] theorem e_flat1_dr : e_flat1.dr = drOf [(2, [9, 10, 11], [[1]])] := rfl
@[push_cast] theorem e_flat1_td : e_flat1.td = td := rfl
@[push_cast] theorem e_flat1_eqt : e_flat1.eqt = eqt := rfl
@[push_cast] theorem e_flat1_cal : e_flat1.cal = calOf [(29, sp_itoa)] := rfl
theorem c_flat1 : CRow P0 ety0 28 sp_flat1 := CRow.of (E := e_flat1) (mkOk (.cons c_itoa (.nil))) func28 rfl rfl rfl (by
  intro args p r outs h hq
  simp only [sp_flat1] at h; split at h <;> cases h
  rename_i k s m t b ks p acc
  obtain ⟨hs, hz, ha⟩ := hq _ rfl
  rw [szNd_mk] at hz
  refine Body.intro (rs := []) rfl rfl rfl ?_
  apply vc_run 1000 (stop := false) rfl; simp only [push_cast, reduceIte, Nat.reduceEqDiff, Nat.reduceAdd, Nat.reduceSub, Nat.reduceLT, Int.reduceNeg, Int.reduceLE, Int.reduceLT, Int.reduceToNat, Nat.reduceLeDiff, UInt8.reduceOfNat, UInt8.reduceOfNatLT, and_self, Nat.reduceMul, decide_true, decide_false, Bool.not_true, Bool.not_false, implies_true]
  refine ⟨fun h2 => ⟨by omega, by unfold sizeOk; omega, ?_⟩, fun h2 => ⟨fun h3 => ⟨by omega, by unfold sizeOk; omega, ?_⟩, fun h3 => ?_⟩⟩
  · rw [lineN, h2]; rfl
  · rw [lineN, h2, h3]; rfl
  have hs : 0 ≤ s ∧ s < 100 := by
    have h2 := of_decide_eq_false h2
    have h3 := of_decide_eq_false h3
    omega
  have hd := dg_len s hs.2
  refine ⟨hs, by omega, by omega, by omega, by unfold sizeOk; omega, ?_⟩
  have e : lineN k s m t = 101 :: 108 :: 101 :: 109 :: 101 :: 110 :: 116 :: 32 :: (dg s ++ 32 :: m) := by
    rw [lineN, h2, h3]; simp
  rw [e])
noncomputable def sp_eachF (z : Nat) : Spec := ⟨[.sl .node, .sl .int, .sc], [.rd, .rd, .io], false, fun
  | [.dat ⟨.node, l⟩, .dat ⟨.int, p⟩, .fn 28 [] [.pb [.own true ⟨.str, acc⟩]]] => some (some (szNds l < z ∧ szNds l ≤ 1048576 ∧ p.length + szNds l ≤ 536870912 ∧ acc.length + szNds l ≤ 536870912 ∧ spNds l), .tup [], [.fn 28 [] [.pb [.own true ⟨.str, acc ++ flatT l⟩]]])
  | _ => none⟩
@[push_cast] theorem sp_eachF_ps (z : Nat) : (sp_eachF z).ps = [.sl .node, .sl .int, .sc] := rfl
@[push_cast] theorem sp_eachF_md (z : Nat) : (sp_eachF z).modes = [.rd, .rd, .io] := rfl
@[push_cast] theorem sp_eachF_pure (z : Nat) : (sp_eachF z).pure = false := rfl
@[push_cast] theorem sp_eachF_run (z : Nat) (l : List Node) (p : List Int) (acc : List Str) : (sp_eachF z).run [.dat ⟨.node, l⟩, .dat ⟨.int, p⟩, .fn 28 [] [.pb [.own true ⟨.str, acc⟩]]] = some (some (szNds l < z ∧ szNds l ≤ 1048576 ∧ p.length + szNds l ≤ 536870912 ∧ acc.length + szNds l ≤ 536870912 ∧ spNds l), .tup [], [.fn 28 [] [.pb [.own true ⟨.str, acc ++ flatT l⟩]]]) := rfl
noncomputable def e_eachF_ (z : Nat) : Env := mk [(35, sp_cloneI), (28, sp_flat1), (27, (sp_eachF z))] [] []
@[push_cast] theorem e_eachF__gh (z : Nat) : (e_eachF_ z).gh = ghOf [] := rfl
@[push_cast] theorem e_eachF__dr (z : Nat) : (e_eachF_ z).dr = drOf [] := rfl
@[push_cast] theorem e_eachF__td (z : Nat) : (e_eachF_ z).td = td := rfl
@[push_cast] theorem e_eachF__eqt (z : Nat) : (e_eachF_ z).eqt = eqt := rfl
@[push_cast] theorem e_eachF__cal (z : Nat) : (e_eachF_ z).cal = calOf [(35, sp_cloneI), (28, sp_flat1), (27, (sp_eachF z))] := rfl
theorem c_eachF_ (z : Nat) (h_eachF : CRow P0 ety0 27 (sp_eachF z)) : CRow P0 ety0 27 (sp_eachF (z+1)) := CRow.of (E := (e_eachF_ z)) (mkOk (.cons c_cloneI (.cons c_flat1 (.cons h_eachF (.nil))))) func27 rfl rfl rfl (by
  intro args p r outs h hq
  simp only [sp_eachF] at h; split at h <;> cases h
  rename_i l p acc
  obtain ⟨hn, hz, hp, ha, hs⟩ := hq _ rfl
  have hl := szL_len szNd l
  rw [← szNds_eq] at hl
  refine Body.intro (rs := []) rfl rfl rfl ?_
  apply vc_run 1000 (stop := false) rfl; simp only [push_cast, reduceIte, Nat.reduceEqDiff, Nat.reduceAdd, Nat.reduceSub, Nat.reduceLT, Int.reduceNeg, Int.reduceLE, Int.reduceLT, Int.reduceToNat, Nat.reduceLeDiff, UInt8.reduceOfNat, UInt8.reduceOfNatLT, and_self, Nat.reduceMul, decide_true, decide_false, Bool.not_true, Bool.not_false, implies_true]
  refine Run.loop [11] [1, 2, 9, 10] [0] rfl (fun m vs bs => ∃ j : Nat, vs = [.int .i64 j] ∧ bs = [[.own true ⟨.str, acc ++ flatT (l.take j)⟩]] ∧ j ≤ l.length ∧ m = l.length - j) l.length ?_ ?_
  · simp only [push_cast, reduceIte, Nat.reduceEqDiff, Nat.reduceAdd, Nat.reduceSub, Nat.reduceLT, Int.reduceNeg, Int.reduceLE, Int.reduceLT, Int.reduceToNat, Nat.reduceLeDiff, UInt8.reduceOfNat, UInt8.reduceOfNatLT, and_self, Nat.reduceMul, decide_true, decide_false, Bool.not_true, Bool.not_false, implies_true]
    exact ⟨0, rfl, by simp [flatT], by omega, by omega⟩
  rintro m vs bs ⟨j, rfl, rfl, hj, rfl⟩
  simp only [push_cast, reduceIte, Nat.reduceEqDiff, Nat.reduceAdd, Nat.reduceSub, Nat.reduceLT, Int.reduceNeg, Int.reduceLE, Int.reduceLT, Int.reduceToNat, Nat.reduceLeDiff, UInt8.reduceOfNat, UInt8.reduceOfNatLT, and_self, Nat.reduceMul, decide_true, decide_false, Bool.not_true, Bool.not_false, implies_true]
  apply vc_run 1000 (stop := false) rfl; simp only [push_cast, reduceIte, Nat.reduceEqDiff, Nat.reduceAdd, Nat.reduceSub, Nat.reduceLT, Int.reduceNeg, Int.reduceLE, Int.reduceLT, Int.reduceToNat, Nat.reduceLeDiff, UInt8.reduceOfNat, UInt8.reduceOfNatLT, and_self, Nat.reduceMul, decide_true, decide_false, Bool.not_true, Bool.not_false, implies_true]
  refine ⟨fun hlt => ?_, fun hge => ?_⟩
  · have hlt : j < l.length := Int.ofNat_lt.1 (of_decide_eq_true hlt)
    have hft := flatT_take hlt
    have hfl := flatT_len (l.take (j + 1))
    have hcs := cntNds_sz (l.take (j + 1))
    obtain ⟨hs1, hs2⟩ := szNds_step hlt
    have hk1 := szNds_kids (l.getD j nodeD)
    have hfj := flatT_len (l.take j)
    have hcj := cntNds_sz (l.take j)
    obtain ⟨hsx, hsk⟩ := (spNd_eq _).1 (fit_at (d := nodeD) ((spNds_iff l).1 hs) hlt)
    simp only [gd_nat]
    refine ⟨by omega, by omega, by unfold sizeOk; omega, ⟨hsx, by omega, by omega⟩, ⟨kid_lt hn hlt, by omega, by omega, by omega, hsk⟩, by constructor <;> omega, _, ?_, j + 1, rfl, by rw [hft], by omega, rfl⟩
    omega
  · have hge : j = l.length := by have := of_decide_eq_false hge; omega
    subst hge
    rw [List.take_length])
noncomputable def sp_flatS (z : Nat) : Spec := ⟨[.sl .node, .sl .str], [.rd, .tk], false, fun
  | [.dat ⟨.node, l⟩, .own true ⟨.str, acc⟩] => some (some (szNds l < z ∧ szNds l ≤ 1048576 ∧ acc.length + szNds l ≤ 536870912 ∧ spNds l), .own true ⟨.str, acc ++ flatT l⟩, [])
  | _ => none⟩
@[push_cast] theorem sp_flatS_ps (z : Nat) : (sp_flatS z).ps = [.sl .node, .sl .str] := rfl
@[push_cast] theorem sp_flatS_md (z : Nat) : (sp_flatS z).modes = [.rd, .tk] := rfl
@[push_cast] theorem sp_flatS_pure (z : Nat) : (sp_flatS z).pure = false := rfl
@[push_cast] theorem sp_flatS_run (z : Nat) (l : List Node) (acc : List Str) : (sp_flatS z).run [.dat ⟨.node, l⟩, .own true ⟨.str, acc⟩] = some (some (szNds l < z ∧ szNds l ≤ 1048576 ∧ acc.length + szNds l ≤ 536870912 ∧ spNds l), .own true ⟨.str, acc ++ flatT l⟩, []) := rfl
noncomputable def e_l11Flat_ (z : Nat) : Env := mk [(24, sp_itoa), (15, (sp_flatS z))] [(6, [9, 10], [[1]])] []
@[push_cast] theorem e_l11Flat__gh (z : Nat) : (e_l11Flat_ z).gh = ghOf [] := rfl
@[push_cast] theorem e_l11Flat__dr (z : Nat) : (e_l11Flat_ z).dr = drOf [(6, [9, 10], [[1]])] := rfl
@[push_cast] theorem e_l11Flat__td (z : Nat) : (e_l11Flat_ z).td = td := rfl
@[push_cast] theorem e_l11Flat__eqt (z : Nat) : (e_l11Flat_ z).eqt = eqt := rfl
@[push_cast] theorem e_l11Flat__cal (z : Nat) : (e_l11Flat_ z).cal = calOf [(24, sp_itoa), (15, (sp_flatS z))] := rfl
theorem c_l11Flat_ (z : Nat) (h_flatS : CRow P0 ety0 15 (sp_flatS z)) : CRow P0 ety0 15 (sp_flatS (z+1)) := CRow.of (E := (e_l11Flat_ z)) (mkOk (.cons c_dig2 (.cons h_flatS (.nil)))) func15 rfl rfl rfl (by
  intro args p r outs h hq
  simp only [sp_flatS] at h; split at h <;> cases h
  rename_i l acc
  obtain ⟨hn, hz, ha, hs⟩ := hq _ rfl
  have hl := szL_len szNd l
  rw [← szNds_eq] at hl
  refine Body.intro (rs := [.tmp 4]) rfl rfl rfl ?_
  apply vc_run 1000 (stop := false) rfl; simp only [push_cast, reduceIte, Nat.reduceEqDiff, Nat.reduceAdd, Nat.reduceSub, Nat.reduceLT, Int.reduceNeg, Int.reduceLE, Int.reduceLT, Int.reduceToNat, Nat.reduceLeDiff, UInt8.reduceOfNat, UInt8.reduceOfNatLT, and_self, Nat.reduceMul, decide_true, decide_false, Bool.not_true, Bool.not_false, implies_true]
  refine Run.loop [1, 5] [0] [] rfl (fun m vs bs => ∃ j : Nat, vs = [.own true ⟨.str, acc ++ flatT (l.take j)⟩, .int .i64 j] ∧ bs = [] ∧ j ≤ l.length ∧ m = l.length - j) l.length ?_ ?_
  · simp only [push_cast, reduceIte, Nat.reduceEqDiff, Nat.reduceAdd, Nat.reduceSub, Nat.reduceLT, Int.reduceNeg, Int.reduceLE, Int.reduceLT, Int.reduceToNat, Nat.reduceLeDiff, UInt8.reduceOfNat, UInt8.reduceOfNatLT, and_self, Nat.reduceMul, decide_true, decide_false, Bool.not_true, Bool.not_false, implies_true]
    exact ⟨0, by simp [flatT], by omega, by omega⟩
  rintro m vs bs ⟨j, rfl, rfl, hj, rfl⟩
  simp only [push_cast, reduceIte, Nat.reduceEqDiff, Nat.reduceAdd, Nat.reduceSub, Nat.reduceLT, Int.reduceNeg, Int.reduceLE, Int.reduceLT, Int.reduceToNat, Nat.reduceLeDiff, UInt8.reduceOfNat, UInt8.reduceOfNatLT, and_self, Nat.reduceMul, decide_true, decide_false, Bool.not_true, Bool.not_false, implies_true]
  apply vc_run 1000 (stop := false) rfl; simp only [push_cast, reduceIte, Nat.reduceEqDiff, Nat.reduceAdd, Nat.reduceSub, Nat.reduceLT, Int.reduceNeg, Int.reduceLE, Int.reduceLT, Int.reduceToNat, Nat.reduceLeDiff, UInt8.reduceOfNat, UInt8.reduceOfNatLT, and_self, Nat.reduceMul, decide_true, decide_false, Bool.not_true, Bool.not_false, implies_true]
  refine ⟨fun hlt => ?_, fun hge => ?_⟩
  · have hlt : j < l.length := Int.ofNat_lt.1 (of_decide_eq_true hlt)
    have hft := flatT_take hlt
    have hfl := flatT_len (l.take (j + 1))
    have hcs := cntNds_sz (l.take (j + 1))
    obtain ⟨hs1, hs2⟩ := szNds_step hlt
    have hk1 := szNds_kids (l.getD j nodeD)
    have hfj := flatT_len (l.take j)
    have hcj := cntNds_sz (l.take j)
    obtain ⟨hsx, hsk⟩ := (spNd_eq _).1 (fit_at (d := nodeD) ((spNds_iff l).1 hs) hlt)
    simp only [gd_nat]
    have hkz := szNd_eq (l.getD j nodeD)
    have hfin : ∀ w, w = lineN (l.getD j nodeD).kind (l.getD j nodeD).space (l.getD j nodeD).name (l.getD j nodeD).text → sizeOk (acc.length + (flatT (l.take j)).length + 1) ∧ (szNds (l.getD j nodeD).kids < z ∧ szNds (l.getD j nodeD).kids ≤ 1048576 ∧ acc.length + ((flatT (l.take j)).length + 1) + szNds (l.getD j nodeD).kids ≤ 536870912 ∧ spNds (l.getD j nodeD).kids) ∧
        i64ok ((j : Int) + 1) ∧ ∃ j_1, j_1 < l.length - j ∧ ∃ j_2 : Nat, [AV.own true ⟨.str, acc ++ (flatT (l.take j) ++ w :: flatT (l.getD j nodeD).kids)⟩, .int .i64 ((j : Int) + 1)] = [AV.own true ⟨.str, acc ++ flatT (l.take j_2)⟩, .int .i64 (j_2 : Nat)] ∧ j_2 ≤ l.length ∧ j_1 = l.length - j_2 := fun w e => by
      subst e
      refine ⟨by unfold sizeOk; omega, ⟨kid_lt hn hlt, by omega, by omega, hsk⟩, by constructor <;> omega, _, ?_, j + 1, by rw [hft]; rfl, by omega, rfl⟩
      omega
    refine ⟨by omega, fun h2 => ⟨by omega, hfin _ ?_⟩, fun h2 => ⟨fun h3 => ⟨by omega, hfin _ ?_⟩, fun h3 => ?_⟩⟩
    · rw [lineN, h2]; rfl
    · rw [lineN, h2, h3]; rfl
    have hsp : 0 ≤ (l.getD j nodeD).space ∧ (l.getD j nodeD).space < 100 := by
      have h2 := of_decide_eq_false h2
      have h3 := of_decide_eq_false h3
      omega
    have hd := dg_len _ hsp.2
    refine ⟨hsp, by omega, by omega, by omega, hfin _ ?_⟩
    rw [lineN, h2, h3]; simp
  · have hge : j = l.length := by have := of_decide_eq_false hge; omega
    subst hge
    rw [List.take_length])
noncomputable def sp_eachFA : Spec := ⟨[.sl .node, .sl .int, .sc], [.rd, .rd, .io], false, fun
  | [.dat ⟨.node, l⟩, .dat ⟨.int, p⟩, .fn 28 [] [.pb [.own true ⟨.str, acc⟩]]] => some (some (szNds l ≤ 1048576 ∧ p.length ≤ 1048576 ∧ acc.length ≤ 1048576 ∧ spNds l), .tup [], [.fn 28 [] [.pb [.own true ⟨.str, acc ++ flatT l⟩]]])
  | _ => none⟩
@[push_cast] theorem sp_eachFA_ps : sp_eachFA.ps = [.sl .node, .sl .int, .sc] := rfl
@[push_cast] theorem sp_eachFA_md : sp_eachFA.modes = [.rd, .rd, .io] := rfl
@[push_cast] theorem sp_eachFA_pure : sp_eachFA.pure = false := rfl
@[push_cast] theorem sp_eachFA_run (l : List Node) (p : List Int) (acc : List Str) : sp_eachFA.run [.dat ⟨.node, l⟩, .dat ⟨.int, p⟩, .fn 28 [] [.pb [.own true ⟨.str, acc⟩]]] = some (some (szNds l ≤ 1048576 ∧ p.length ≤ 1048576 ∧ acc.length ≤ 1048576 ∧ spNds l), .tup [], [.fn 28 [] [.pb [.own true ⟨.str, acc ++ flatT l⟩]]]) := rfl
theorem r_eachF : ∀ z, CRow P0 ety0 27 (sp_eachF z)
  | 0 => .absurd (fun args p r outs h hq => by
      simp only [sp_eachF] at h; split at h <;> cases h
      exact absurd (hq _ rfl).1 (Nat.not_lt_zero _)) (ent_of func27 rfl rfl)
  | z + 1 => c_eachF_ z (r_eachF z)
theorem c_eachFA : CRow P0 ety0 27 sp_eachFA := .all (spn := sp_eachF) (fun _ => rfl) r_eachF (fun args p r outs h hq => by
  simp only [sp_eachFA] at h; split at h <;> cases h
  rename_i l p acc
  obtain ⟨h1, h2, h3, h4⟩ := hq _ rfl
  exact ⟨szNds l + 1, _, rfl, fun q hq' => by cases hq'; exact ⟨Nat.lt_succ_self _, h1, by omega, by omega, h4⟩⟩)
noncomputable def sp_flatT : Spec := ⟨[.sl .node], [.rd], false, fun
  | [.dat ⟨.node, l⟩] => some (some (szL szNd l ≤ 1048576 ∧ spNds l), .own true ⟨.str, flatT l⟩, [])
  | _ => none⟩
@[push_cast] theorem sp_flatT_ps : sp_flatT.ps = [.sl .node] := rfl
@[push_cast] theorem sp_flatT_md : sp_flatT.modes = [.rd] := rfl
@[push_cast] theorem sp_flatT_pure : sp_flatT.pure = false := rfl
@[push_cast] theorem sp_flatT_run (l : List Node) : sp_flatT.run [.dat ⟨.node, l⟩] = some (some (szL szNd l ≤ 1048576 ∧ spNds l), .own true ⟨.str, flatT l⟩, []) := rfl
noncomputable def e_flatten : Env := mk [(27, sp_eachFA)] [] []
@[push_cast] theorem e_flatten_gh : e_flatten.gh = ghOf [] := rfl
@[push_cast] theorem e_flatten_dr : e_flatten.dr = drOf [] := rfl
@[push_cast] theorem e_flatten_td : e_flatten.td = td := rfl
@[push_cast] theorem e_flatten_eqt : e_flatten.eqt = eqt := rfl
@[push_cast] theorem e_flatten_cal : e_flatten.cal = calOf [(27, sp_eachFA)] := rfl
theorem c_flatten : CRow P0 ety0 18 sp_flatT := CRow.of (E := e_flatten) (mkOk (.cons c_eachFA (.nil))) func18 rfl rfl rfl (by
  intro args p r outs h hq
  simp only [sp_flatT] at h; split at h <;> cases h
  rename_i l
  obtain ⟨hz, hs⟩ := hq _ rfl
  rw [← szNds_eq] at hz
  refine Body.intro (rs := [.tmp 2]) rfl rfl rfl ?_
  apply vc_run 1000 (stop := false) rfl; simp only [push_cast, reduceIte, Nat.reduceEqDiff, Nat.reduceAdd, Nat.reduceSub, Nat.reduceLT, Int.reduceNeg, Int.reduceLE, Int.reduceLT, Int.reduceToNat, Nat.reduceLeDiff, UInt8.reduceOfNat, UInt8.reduceOfNatLT, and_self, Nat.reduceMul, decide_true, decide_false, Bool.not_true, Bool.not_false, implies_true]
  exact ⟨hz, hs⟩)
noncomputable def sp_flatA : Spec := ⟨[.sl .node, .sl .str], [.rd, .tk], false, fun
  | [.dat ⟨.node, l⟩, .own true ⟨.str, acc⟩] => some (some (szL szNd l ≤ 1048576 ∧ acc.length ≤ 1048576 ∧ spNds l), .own true ⟨.str, acc ++ flatT l⟩, [])
  | _ => none⟩
@[push_cast] theorem sp_flatA_ps : sp_flatA.ps = [.sl .node, .sl .str] := rfl
@[push_cast] theorem sp_flatA_md : sp_flatA.modes = [.rd, .tk] := rfl
@[push_cast] theorem sp_flatA_pure : sp_flatA.pure = false := rfl
@[push_cast] theorem sp_flatA_run (l : List Node) (acc : List Str) : sp_flatA.run [.dat ⟨.node, l⟩, .own true ⟨.str, acc⟩] = some (some (szL szNd l ≤ 1048576 ∧ acc.length ≤ 1048576 ∧ spNds l), .own true ⟨.str, acc ++ flatT l⟩, []) := rfl
theorem r_flatS : ∀ z, CRow P0 ety0 15 (sp_flatS z)
  | 0 => .absurd (fun args p r outs h hq => by
      simp only [sp_flatS] at h; split at h <;> cases h
      exact absurd (hq _ rfl).1 (Nat.not_lt_zero _)) (ent_of func15 rfl rfl)
  | z + 1 => c_l11Flat_ z (r_flatS z)
theorem c_l11Flat : CRow P0 ety0 15 sp_flatA := .all (spn := sp_flatS) (fun _ => rfl) r_flatS (fun args p r outs h hq => by
  simp only [sp_flatA] at h; split at h <;> cases h
  rename_i l acc
  obtain ⟨h1, h2, h3⟩ := hq _ rfl
  rw [← szNds_eq] at h1
  exact ⟨szNds l + 1, _, rfl, fun q hq' => by cases hq'; exact ⟨Nat.lt_succ_self _, h1, by omega, h3⟩⟩)
end Go.Ab
