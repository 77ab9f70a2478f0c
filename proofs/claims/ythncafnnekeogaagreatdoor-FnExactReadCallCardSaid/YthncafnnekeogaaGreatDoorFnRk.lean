/- Calls are read: both sides. -/
import Derived.Test.YthncafnnekeogaaGreatDoorPlCall
import Derived.Test.YthncafnnekeogaaGreatDoorFnMi
set_option linter.all false
set_option linter.unusedSimpArgs false
set_option linter.unusedVariables false
set_option linter.unusedSectionVars false
set_option maxRecDepth 20000
set_option maxHeartbeats 1000000
namespace Go.Ab
open Go Go.Proofs.Tryz
open Go.Lib
noncomputable def sp_cutB : Spec := ⟨[.sc, .sc], [.rd, .rd], true, fun
  | [.str s, .str [32]] => some (some (s.length < 4294967281), .tup [.str (ct s).1, .str (ct s).2, .bool (s.contains 32)], [])
  | _ => none⟩
@[push_cast] theorem sp_cutB_ps : sp_cutB.ps = [.sc, .sc] := rfl
@[push_cast] theorem sp_cutB_md : sp_cutB.modes = [.rd, .rd] := rfl
@[push_cast] theorem sp_cutB_pure : sp_cutB.pure = true := rfl
@[push_cast] theorem sp_cutB_run (s : Str) : sp_cutB.run [.str s, .str [32]] = some (some (s.length < 4294967281), .tup [.str (ct s).1, .str (ct s).2, .bool (s.contains 32)], []) := rfl
theorem c_cutB : CRow P0 ety0 71 sp_cutB := by
  refine ⟨?_, ent_of func71 rfl rfl⟩
  intro args p r outs hrun hq w R vs F hrel hR hFR hFl hG
  simp only [sp_cutB] at hrun
  split at hrun <;> cases hrun
  rename_i s
  have hs := hq _ rfl
  obtain ⟨u, v, rfl, ⟨_, h1⟩, ⟨_, h2⟩⟩ := args2 hrel
  cases relA_str h1
  cases relA_str h2
  obtain ⟨w0, hk0, hw0⟩ := hG
  obtain ⟨m, hm⟩ := Go.Proofs.Tryz.laysM145.s1_3 w0 hk0.1
  refine (Go.Proofs.Tryz.strings_Cut ⟨s.toArray⟩ ⟨[32].toArray⟩ m w (by rw [str_size]; omega) (gi_cell hw0 hm)).mono fun e w' h => ?_
  obtain ⟨he, n, rfl⟩ := h
  have e1 : Lib.cut (⟨s.toArray⟩ : ByteArray).data.toList (⟨[(32 : UInt8)].toArray⟩ : ByteArray).data.toList = ((ct s).1, (ct s).2, s.contains 32) := ct_cut s
  rw [e1] at he
  exact fin_plain (P := P0) rfl hR he ⟨rfl, rfl, rfl, Nat.le_refl _, fun b _ => rfl⟩ fun X => .tup _ _ rfl fun j c z hj hz => by
    match j, hj, hz with
    | 0, hj, hz => cases hj; cases hz; exact .str _
    | 1, hj, hz => cases hj; cases hz; exact .str _
    | 2, hj, hz => cases hj; cases hz; exact .bool _
noncomputable def sp_next1 : Spec := ⟨[.sc], [.io], false, fun
  | [.pb [.str s]] => some (some (s.length < 4294967281), .str (ct s).1, [.pb [.str (ct s).2]])
  | _ => none⟩
@[push_cast] theorem sp_next1_ps : sp_next1.ps = [.sc] := rfl
@[push_cast] theorem sp_next1_md : sp_next1.modes = [.io] := rfl
@[push_cast] theorem sp_next1_pure : sp_next1.pure = false := rfl
@[push_cast] theorem sp_next1_run (s : Str) : sp_next1.run [.pb [.str s]] = some (some (s.length < 4294967281), .str (ct s).1, [.pb [.str (ct s).2]]) := rfl
noncomputable def e_next1 : Env := mk [(71, sp_cutB)] [] [] [] none
@[push_cast] theorem e_next1_in : e_next1.inl = inlF [] := rfl
@[push_cast] theorem e_next1_fn : e_next1.fnd = fndF none := rfl
@[push_cast] theorem e_next1_gh : e_next1.gh = ghOf [] := rfl
@[push_cast] theorem e_next1_dr : e_next1.dr = drOf [] := rfl
@[push_cast] theorem e_next1_td : e_next1.td = td := rfl
@[push_cast] theorem e_next1_eqt : e_next1.eqt = eqt := rfl
@[push_cast] theorem e_next1_cal : e_next1.cal = calOf [(71, sp_cutB)] := rfl
theorem c_next1 : CRow P0 ety0 74 sp_next1 := CRow.of (E := e_next1) (mkOk (.cons c_cutB (.nil))) func74 rfl rfl rfl (by
  intro args p r outs h hq
  simp only [sp_next1] at h; split at h <;> cases h
  rename_i s
  have hs := hq _ rfl
  refine Body.intro (rs := [.tmp 1]) rfl rfl rfl ?_
  apply vc_run 1000 (stop := false) rfl; simp only [push_cast, reduceIte, Nat.reduceEqDiff, Nat.reduceAdd, Nat.reduceSub, Nat.reduceLT, Int.reduceNeg, Int.reduceLE, Int.reduceLT, Int.reduceToNat, Nat.reduceLeDiff, UInt8.reduceOfNat, UInt8.reduceOfNatLT, and_self, Nat.reduceMul, decide_true, decide_false, Bool.not_true, Bool.not_false, implies_true]
  exact hs)
def rq2 (t : Str) (k : Int) : Str × Str := bif hasPath k then ct (ct (ct t).2).2 else ([], (ct (ct t).2).2)
def rq3 (t : Str) (k : Int) : Str × Str := bif hasName k then ct (rq2 t k).2 else ([], (rq2 t k).2)
def rq4 (t : Str) (k : Int) : Str × Str := bif hasConfig k then ct (rq3 t k).2 else ([], (rq3 t k).2)
def rqP (t : Str) (k : Int) : List Int := bif hasPath k then (rpI (rq2 t k).1).1 else []
def rqG (t : Str) (k : Int) : Int := bif hasConfig k then atoiV (rq4 t k).1 else 0
def rqT (t : Str) (k : Int) : Str := bif hasText k then (rq4 t k).2 else []
theorem rcC_eq (t : Str) (k : Int) : rcC t k = ⟨k, atoiV (ct (ct t).2).1, rqG t k, rqP t k, (rq3 t k).1, rqT t k⟩ := rfl
theorem bct_len (b : Bool) (s : Str) : (bif b then ct s else ([], s)).1.length + (bif b then ct s else ([], s)).2.length ≤ s.length := by
  cases b
  · simp
  · exact ct_len s
theorem rpI_len (t : Str) : (rpI t).1.length ≤ t.length + 1 := by
  unfold rpI
  split
  · simp
  · split
    · simp only [List.length_map]; exact splitS_len 46 t
    · simp
noncomputable def sp_l12ReadCall : Spec := ⟨[.sc], [.rd], false, fun
  | [.str t] => some (some (t.length ≤ 1048570), .tup [.agg [.int .i64 (rcS t).1.kind, .int .i64 (rcS t).1.doc, .int .i64 (rcS t).1.config, .own true ⟨.int, (rcS t).1.path⟩, .str (rcS t).1.name, .str (rcS t).1.text], .bool (rcS t).2], [])
  | _ => none⟩
@[push_cast] theorem sp_l12ReadCall_ps : sp_l12ReadCall.ps = [.sc] := rfl
@[push_cast] theorem sp_l12ReadCall_md : sp_l12ReadCall.modes = [.rd] := rfl
@[push_cast] theorem sp_l12ReadCall_pure : sp_l12ReadCall.pure = false := rfl
@[push_cast] theorem sp_l12ReadCall_run (t : Str) : sp_l12ReadCall.run [.str t] = some (some (t.length ≤ 1048570), .tup [.agg [.int .i64 (rcS t).1.kind, .int .i64 (rcS t).1.doc, .int .i64 (rcS t).1.config, .own true ⟨.int, (rcS t).1.path⟩, .str (rcS t).1.name, .str (rcS t).1.text], .bool (rcS t).2], []) := rfl
noncomputable def sp_readCall : Spec := ⟨[.sc], [.rd], false, fun
  | [.str t] => some (some (t.length ≤ 1048570), .tup [.agg [.int .i64 (rcI t).1.kind, .int .i64 (rcI t).1.doc, .int .i64 (rcI t).1.config, .own true ⟨.int, (rcI t).1.path⟩, .str (rcI t).1.name, .str (rcI t).1.text], .bool (rcI t).2], [])
  | _ => none⟩
@[push_cast] theorem sp_readCall_ps : sp_readCall.ps = [.sc] := rfl
@[push_cast] theorem sp_readCall_md : sp_readCall.modes = [.rd] := rfl
@[push_cast] theorem sp_readCall_pure : sp_readCall.pure = false := rfl
@[push_cast] theorem sp_readCall_run (t : Str) : sp_readCall.run [.str t] = some (some (t.length ≤ 1048570), .tup [.agg [.int .i64 (rcI t).1.kind, .int .i64 (rcI t).1.doc, .int .i64 (rcI t).1.config, .own true ⟨.int, (rcI t).1.path⟩, .str (rcI t).1.name, .str (rcI t).1.text], .bool (rcI t).2], []) := rfl
noncomputable def e_readCall : Env := mk [(71, sp_cutB), (73, sp_callWords), (72, sp_indexS), (74, sp_next1), (75, sp_number), (76, sp_hasPath), (77, sp_readPath), (78, sp_hasName), (79, sp_hasConfig), (80, sp_hasText), (81, sp_callOK), (82, sp_callText)] [] [(20, [.nib .int 7 3]), (2000000, [.nib .int 2 3])] [] none
@[push_cast] theorem e_readCall_in : e_readCall.inl = inlF [] := rfl
@[push_cast] theorem e_readCall_fn : e_readCall.fnd = fndF none := rfl
@[push_cast] theorem e_readCall_gh : e_readCall.gh = ghOf [(20, [.nib .int 7 3]), (2000000, [.nib .int 2 3])] := rfl
@[push_cast] theorem e_readCall_dr : e_readCall.dr = drOf [] := rfl
@[push_cast] theorem e_readCall_td : e_readCall.td = td := rfl
@[push_cast] theorem e_readCall_eqt : e_readCall.eqt = eqt := rfl
@[push_cast] theorem e_readCall_cal : e_readCall.cal = calOf [(71, sp_cutB), (73, sp_callWords), (72, sp_indexS), (74, sp_next1), (75, sp_number), (76, sp_hasPath), (77, sp_readPath), (78, sp_hasName), (79, sp_hasConfig), (80, sp_hasText), (81, sp_callOK), (82, sp_callText)] := rfl
theorem c_readCall : CRow P0 ety0 35 sp_readCall := CRow.of (E := e_readCall) (mkOk (.cons c_cutB (.cons c_callWords (.cons c_indexS (.cons c_next1 (.cons c_number (.cons c_hasPath (.cons c_readPath (.cons c_hasName (.cons c_hasConfig (.cons c_hasText (.cons c_callOK (.cons c_callText (.nil)))))))))))))) func35 rfl rfl rfl (by
  intro args p r outs h hq
  simp only [sp_readCall] at h; split at h <;> cases h
  rename_i t
  have hs := hq _ rfl
  refine Body.intro (rs := [.cell 2 32, .tmp 3]) rfl rfl rfl ?_
  apply vc_run 1000 (stop := true) rfl; simp only [push_cast, reduceIte, Nat.reduceEqDiff, Nat.reduceAdd, Nat.reduceSub, Nat.reduceLT, Int.reduceNeg, Int.reduceLE, Int.reduceLT, Int.reduceToNat, Nat.reduceLeDiff, UInt8.reduceOfNat, UInt8.reduceOfNatLT, and_self, Nat.reduceMul, decide_true, decide_false, Bool.not_true, Bool.not_false, implies_true]
  have l0 := ct_len t
  have l1 := ct_len (ct t).2
  have l2 := bct_len (hasPath (kindI t)) (ct (ct t).2).2
  have l3 := bct_len (hasName (kindI t)) (rq2 t (kindI t)).2
  have l4 := bct_len (hasConfig (kindI t)) (rq3 t (kindI t)).2
  have l2 : (rq2 t (kindI t)).1.length + (rq2 t (kindI t)).2.length ≤ (ct (ct t).2).2.length := l2
  have l3 : (rq3 t (kindI t)).1.length + (rq3 t (kindI t)).2.length ≤ (rq2 t (kindI t)).2.length := l3
  have l4 : (rq4 t (kindI t)).1.length + (rq4 t (kindI t)).2.length ≤ (rq3 t (kindI t)).2.length := l4
  have l5 := rpI_len (rq2 t (kindI t)).1
  refine ⟨by omega, ?_⟩
  refine Run.cut [3] [0, 2, 5, 7] [0, 1, 3] rfl (fun vs bs => vs = [.bool false] ∧ bs = [[.int .i64 0, .int .i64 0, .int .i64 0, .nilS, .str [], .str []], [.str (ct t).2], [.int .i64 (kindI t), .int .i64 0, .int .i64 0, .own true ⟨.int, []⟩, .str [], .str []]] ∧ ¬ kindI t < 1) ?_ ?_
  · apply vc_run 1000 (stop := false) rfl; simp only [push_cast, reduceIte, Nat.reduceEqDiff, Nat.reduceAdd, Nat.reduceSub, Nat.reduceLT, Int.reduceNeg, Int.reduceLE, Int.reduceLT, Int.reduceToNat, Nat.reduceLeDiff, UInt8.reduceOfNat, UInt8.reduceOfNatLT, and_self, Nat.reduceMul, decide_true, decide_false, Bool.not_true, Bool.not_false, implies_true]
    refine ⟨fun h => ?_, fun h => ?_⟩
    · have h : kindI t < 1 := of_decide_eq_true h
      rw [rcI, if_pos h]; rfl
    · have h : ¬ kindI t < 1 := of_decide_eq_false h
      exact ⟨rfl, h⟩
  rintro vs bs ⟨rfl, rfl, hk⟩
  simp only [push_cast, reduceIte, Nat.reduceEqDiff, Nat.reduceAdd, Nat.reduceSub, Nat.reduceLT, Int.reduceNeg, Int.reduceLE, Int.reduceLT, Int.reduceToNat, Nat.reduceLeDiff, UInt8.reduceOfNat, UInt8.reduceOfNatLT, and_self, Nat.reduceMul, decide_true, decide_false, Bool.not_true, Bool.not_false, implies_true]
  apply vc_run 1000 (stop := true) rfl; simp only [push_cast, reduceIte, Nat.reduceEqDiff, Nat.reduceAdd, Nat.reduceSub, Nat.reduceLT, Int.reduceNeg, Int.reduceLE, Int.reduceLT, Int.reduceToNat, Nat.reduceLeDiff, UInt8.reduceOfNat, UInt8.reduceOfNatLT, and_self, Nat.reduceMul, decide_true, decide_false, Bool.not_true, Bool.not_false, implies_true]
  refine ⟨by omega, by omega, ?_⟩
  refine Run.cut [] [0, 2, 3, 5, 7, 8] [0, 1, 3] rfl (fun vs bs => vs = [] ∧ bs = [[.int .i64 0, .int .i64 0, .int .i64 0, .nilS, .str [], .str []], [.str (rq2 t (kindI t)).2], [.int .i64 (kindI t), .int .i64 (atoiV (ct (ct t).2).1), .int .i64 0, .own true ⟨.int, rqP t (kindI t)⟩, .str [], .str []]]) ?_ ?_
  · apply vc_run 1000 (stop := false) rfl; simp only [push_cast, reduceIte, Nat.reduceEqDiff, Nat.reduceAdd, Nat.reduceSub, Nat.reduceLT, Int.reduceNeg, Int.reduceLE, Int.reduceLT, Int.reduceToNat, Nat.reduceLeDiff, UInt8.reduceOfNat, UInt8.reduceOfNatLT, and_self, Nat.reduceMul, decide_true, decide_false, Bool.not_true, Bool.not_false, implies_true]
    refine ⟨fun h => ⟨by omega, ?_, ?_⟩, fun h => ?_⟩
    · have := ct_len (ct (ct t).2).2; omega
    · simp only [rq2, rqP, h]; rfl
    · simp only [rq2, rqP, h]; rfl
  rintro vs bs ⟨rfl, rfl⟩
  simp only [push_cast, reduceIte, Nat.reduceEqDiff, Nat.reduceAdd, Nat.reduceSub, Nat.reduceLT, Int.reduceNeg, Int.reduceLE, Int.reduceLT, Int.reduceToNat, Nat.reduceLeDiff, UInt8.reduceOfNat, UInt8.reduceOfNatLT, and_self, Nat.reduceMul, decide_true, decide_false, Bool.not_true, Bool.not_false, implies_true]
  apply vc_run 1000 (stop := true) rfl; simp only [push_cast, reduceIte, Nat.reduceEqDiff, Nat.reduceAdd, Nat.reduceSub, Nat.reduceLT, Int.reduceNeg, Int.reduceLE, Int.reduceLT, Int.reduceToNat, Nat.reduceLeDiff, UInt8.reduceOfNat, UInt8.reduceOfNatLT, and_self, Nat.reduceMul, decide_true, decide_false, Bool.not_true, Bool.not_false, implies_true]
  refine Run.cut [] [0, 2, 3, 5, 7, 8] [0, 1, 3] rfl (fun vs bs => vs = [] ∧ bs = [[.int .i64 0, .int .i64 0, .int .i64 0, .nilS, .str [], .str []], [.str (rq3 t (kindI t)).2], [.int .i64 (kindI t), .int .i64 (atoiV (ct (ct t).2).1), .int .i64 0, .own true ⟨.int, rqP t (kindI t)⟩, .str (rq3 t (kindI t)).1, .str []]]) ?_ ?_
  · apply vc_run 1000 (stop := false) rfl; simp only [push_cast, reduceIte, Nat.reduceEqDiff, Nat.reduceAdd, Nat.reduceSub, Nat.reduceLT, Int.reduceNeg, Int.reduceLE, Int.reduceLT, Int.reduceToNat, Nat.reduceLeDiff, UInt8.reduceOfNat, UInt8.reduceOfNatLT, and_self, Nat.reduceMul, decide_true, decide_false, Bool.not_true, Bool.not_false, implies_true]
    refine ⟨fun h => ⟨by omega, ?_⟩, fun h => ?_⟩
    · simp only [rq3, h]; rfl
    · simp only [rq3, h]; rfl
  rintro vs bs ⟨rfl, rfl⟩
  simp only [push_cast, reduceIte, Nat.reduceEqDiff, Nat.reduceAdd, Nat.reduceSub, Nat.reduceLT, Int.reduceNeg, Int.reduceLE, Int.reduceLT, Int.reduceToNat, Nat.reduceLeDiff, UInt8.reduceOfNat, UInt8.reduceOfNatLT, and_self, Nat.reduceMul, decide_true, decide_false, Bool.not_true, Bool.not_false, implies_true]
  apply vc_run 1000 (stop := true) rfl; simp only [push_cast, reduceIte, Nat.reduceEqDiff, Nat.reduceAdd, Nat.reduceSub, Nat.reduceLT, Int.reduceNeg, Int.reduceLE, Int.reduceLT, Int.reduceToNat, Nat.reduceLeDiff, UInt8.reduceOfNat, UInt8.reduceOfNatLT, and_self, Nat.reduceMul, decide_true, decide_false, Bool.not_true, Bool.not_false, implies_true]
  refine Run.cut [] [0, 2, 3, 5, 7, 8] [0, 1, 3] rfl (fun vs bs => vs = [] ∧ bs = [[.int .i64 0, .int .i64 0, .int .i64 0, .nilS, .str [], .str []], [.str (rq4 t (kindI t)).2], [.int .i64 (kindI t), .int .i64 (atoiV (ct (ct t).2).1), .int .i64 (rqG t (kindI t)), .own true ⟨.int, rqP t (kindI t)⟩, .str (rq3 t (kindI t)).1, .str []]]) ?_ ?_
  · apply vc_run 1000 (stop := false) rfl; simp only [push_cast, reduceIte, Nat.reduceEqDiff, Nat.reduceAdd, Nat.reduceSub, Nat.reduceLT, Int.reduceNeg, Int.reduceLE, Int.reduceLT, Int.reduceToNat, Nat.reduceLeDiff, UInt8.reduceOfNat, UInt8.reduceOfNatLT, and_self, Nat.reduceMul, decide_true, decide_false, Bool.not_true, Bool.not_false, implies_true]
    refine ⟨fun h => ⟨by omega, ?_, ?_⟩, fun h => ?_⟩
    · have := ct_len (rq3 t (kindI t)).2; omega
    · simp only [rq4, rqG, h]; rfl
    · simp only [rq4, rqG, h]; rfl
  rintro vs bs ⟨rfl, rfl⟩
  simp only [push_cast, reduceIte, Nat.reduceEqDiff, Nat.reduceAdd, Nat.reduceSub, Nat.reduceLT, Int.reduceNeg, Int.reduceLE, Int.reduceLT, Int.reduceToNat, Nat.reduceLeDiff, UInt8.reduceOfNat, UInt8.reduceOfNatLT, and_self, Nat.reduceMul, decide_true, decide_false, Bool.not_true, Bool.not_false, implies_true]
  apply vc_run 1000 (stop := true) rfl; simp only [push_cast, reduceIte, Nat.reduceEqDiff, Nat.reduceAdd, Nat.reduceSub, Nat.reduceLT, Int.reduceNeg, Int.reduceLE, Int.reduceLT, Int.reduceToNat, Nat.reduceLeDiff, UInt8.reduceOfNat, UInt8.reduceOfNatLT, and_self, Nat.reduceMul, decide_true, decide_false, Bool.not_true, Bool.not_false, implies_true]
  refine Run.cut [] [0, 2, 3, 5, 7, 8] [0, 1, 3] rfl (fun vs bs => vs = [] ∧ bs = [[.int .i64 0, .int .i64 0, .int .i64 0, .nilS, .str [], .str []], [.str (rq4 t (kindI t)).2], [.int .i64 (kindI t), .int .i64 (atoiV (ct (ct t).2).1), .int .i64 (rqG t (kindI t)), .own true ⟨.int, rqP t (kindI t)⟩, .str (rq3 t (kindI t)).1, .str (rqT t (kindI t))]]) ?_ ?_
  · apply vc_run 1000 (stop := false) rfl; simp only [push_cast, reduceIte, Nat.reduceEqDiff, Nat.reduceAdd, Nat.reduceSub, Nat.reduceLT, Int.reduceNeg, Int.reduceLE, Int.reduceLT, Int.reduceToNat, Nat.reduceLeDiff, UInt8.reduceOfNat, UInt8.reduceOfNatLT, and_self, Nat.reduceMul, decide_true, decide_false, Bool.not_true, Bool.not_false, implies_true]
    refine ⟨fun h => ?_, fun h => ?_⟩
    · simp only [rqT, h]; rfl
    · simp only [rqT, h]; rfl
  rintro vs bs ⟨rfl, rfl⟩
  simp only [push_cast, reduceIte, Nat.reduceEqDiff, Nat.reduceAdd, Nat.reduceSub, Nat.reduceLT, Int.reduceNeg, Int.reduceLE, Int.reduceLT, Int.reduceToNat, Nat.reduceLeDiff, UInt8.reduceOfNat, UInt8.reduceOfNatLT, and_self, Nat.reduceMul, decide_true, decide_false, Bool.not_true, Bool.not_false, implies_true]
  apply vc_run 1000 (stop := false) rfl; simp only [push_cast, reduceIte, Nat.reduceEqDiff, Nat.reduceAdd, Nat.reduceSub, Nat.reduceLT, Int.reduceNeg, Int.reduceLE, Int.reduceLT, Int.reduceToNat, Nat.reduceLeDiff, UInt8.reduceOfNat, UInt8.reduceOfNatLT, and_self, Nat.reduceMul, decide_true, decide_false, Bool.not_true, Bool.not_false, implies_true]
  have hz : szKall (rcC t (kindI t)) ≤ 1048576 := by
    rw [rcC_eq]
    simp only [szKall]
    have h1 : (rqP t (kindI t)).length ≤ (rq2 t (kindI t)).1.length + 1 := by
      unfold rqP
      cases hasPath (kindI t)
      · exact Nat.zero_le _
      · exact l5
    have h2 : (rqT t (kindI t)).length ≤ (rq4 t (kindI t)).2.length := by
      unfold rqT
      cases hasText (kindI t)
      · exact Nat.zero_le _
      · exact Nat.le_refl _
    omega
  rw [← rcC_eq]
  have e0 : rcI t = if callOK (rcC t (kindI t)) = true ∧ callText (rcC t (kindI t)) = t then (rcC t (kindI t), true) else (kall0, false) := by rw [rcI, if_neg hk]
  rw [e0]
  clear hq l0 l1 l2 l3 l4 l5
  cases hc : callOK (rcC t (kindI t)) with
  | false => exact ⟨hz, fun h => (by cases h), fun _ => (by simp [kall0]), fun h => (by cases h)⟩
  | true =>
    refine ⟨hz, fun _ => ⟨hz, rfl⟩, fun h => ?_, fun h => ?_⟩
    · have h : callText (rcC t (kindI t)) ≠ t := by simpa using h
      rw [if_neg (fun e => h e.2)]; rfl
    · have h : callText (rcC t (kindI t)) = t := by simpa using h
      rw [if_pos ⟨rfl, h⟩]; rfl)
theorem ct_at {s : Str} {k : Nat} (h : noB (s.take k)) (hk : k < s.length) (he : s.getD k 0 = 32) : ct s = (s.take k, s.drop (k + 1)) := by
  have e : s.getD k 0 = s[k] := by simp [List.getD, hk]
  have : s = s.take k ++ 32 :: s.drop (k + 1) := by
    conv => lhs; rw [← List.take_append_drop k s, List.drop_eq_getElem_cons hk, ← e, he]
  conv => lhs; rw [this]
  exact ct_app h _
theorem noB_step {s : Str} {k : Nat} (h : noB (s.take k)) (hk : k < s.length) (he : s.getD k 0 ≠ 32) : noB (s.take (k + 1)) := by
  have e : s.getD k 0 = s[k] := by simp [List.getD, hk]
  rw [List.take_succ_eq_append_getElem hk]
  intro x hx
  rcases List.mem_append.1 hx with hx | hx
  · exact h x hx
  · have : x = s[k] := by simpa using hx
    rw [this, ← e]; exact he
theorem headS_len : ∀ (n : Nat) (b : Bool) (t : Str), sumL List.length (headS n b t).1 + (headS n b t).2.1.length ≤ t.length
  | 0, b, t => by simp [headS, sumL]
  | n + 1, b, t => by
    have hl := ct_len t
    have h1 := headS_len n b (ct t).2
    rw [headS]
    by_cases hc : (ct t).1 = [] ∨ (decide (n = 0) && !b) ≠ decide ((ct t).1.length = t.length)
    · rw [if_pos hc]; simp [sumL]
    · rw [if_neg hc]
      have e : sumL List.length ((ct t).1 :: (headS n b (ct t).2).1) = (ct t).1.length + sumL List.length (headS n b (ct t).2).1 := by simp [sumL]
      simp only [e]
      omega
theorem rpS_len (t : Str) : (rpS t).1.length ≤ t.length + 1 := by
  unfold rpS
  split
  · simp
  · split
    · simp only [List.length_map]; exact splitS_len 46 t
    · simp
noncomputable def sp_head : Spec := ⟨[.sc, .sc, .sc], [.rd, .rd, .rd], false, fun
  | [.str t, .int .i64 n, .bool b] => some (some (0 ≤ n ∧ n ≤ 4 ∧ t.length ≤ 1073741823), .tup [.own true ⟨.str, (headS n.toNat b t).1⟩, .str (headS n.toNat b t).2.1, .bool (headS n.toNat b t).2.2], [])
  | _ => none⟩
@[push_cast] theorem sp_head_ps : sp_head.ps = [.sc, .sc, .sc] := rfl
@[push_cast] theorem sp_head_md : sp_head.modes = [.rd, .rd, .rd] := rfl
@[push_cast] theorem sp_head_pure : sp_head.pure = false := rfl
@[push_cast] theorem sp_head_run (t : Str) (n : Int) (b : Bool) : sp_head.run [.str t, .int .i64 n, .bool b] = some (some (0 ≤ n ∧ n ≤ 4 ∧ t.length ≤ 1073741823), .tup [.own true ⟨.str, (headS n.toNat b t).1⟩, .str (headS n.toNat b t).2.1, .bool (headS n.toNat b t).2.2], []) := rfl
noncomputable def e_head : Env := mk [] [] [] [] none
@[push_cast] theorem e_head_in : e_head.inl = inlF [] := rfl
@[push_cast] theorem e_head_fn : e_head.fnd = fndF none := rfl
@[push_cast] theorem e_head_gh : e_head.gh = ghOf [] := rfl
@[push_cast] theorem e_head_dr : e_head.dr = drOf [] := rfl
@[push_cast] theorem e_head_td : e_head.td = td := rfl
@[push_cast] theorem e_head_eqt : e_head.eqt = eqt := rfl
@[push_cast] theorem e_head_cal : e_head.cal = calOf [] := rfl
theorem c_head : CRow P0 ety0 67 sp_head := CRow.of (E := e_head) (mkOk (.nil)) func67 rfl rfl rfl (by
  intro args p r outs h hq
  simp only [sp_head] at h; split at h <;> cases h
  rename_i t n b
  obtain ⟨h0, h1, hs⟩ := hq _ rfl
  obtain ⟨m, rfl⟩ : ∃ m : Nat, n = m := ⟨n.toNat, by omega⟩
  simp only [Int.toNat_natCast]
  refine Body.intro (rs := [.tmp 6, .tmp 7, .tmp 8]) rfl rfl rfl ?_
  apply vc_run 1000 (stop := false) rfl; simp only [push_cast, reduceIte, Nat.reduceEqDiff, Nat.reduceAdd, Nat.reduceSub, Nat.reduceLT, Int.reduceNeg, Int.reduceLE, Int.reduceLT, Int.reduceToNat, Nat.reduceLeDiff, UInt8.reduceOfNat, UInt8.reduceOfNatLT, and_self, Nat.reduceMul, decide_true, decide_false, Bool.not_true, Bool.not_false, implies_true]
  refine Run.loop [0, 6, 7, 8, 9] [1, 2] [] rfl (fun q vs bs => ∃ (cur : Str) (out : List Str), vs = [.str cur, .nilS, .str [], .bool false, .own true ⟨.str, out⟩] ∧ bs = [] ∧ out.length ≤ m ∧ cur.length ≤ 1073741823 ∧ headS m b t = (out ++ (headS (m - out.length) b cur).1, (headS (m - out.length) b cur).2) ∧ q = m - out.length) m ?_ ?_
  · simp only [push_cast, reduceIte, Nat.reduceEqDiff, Nat.reduceAdd, Nat.reduceSub, Nat.reduceLT, Int.reduceNeg, Int.reduceLE, Int.reduceLT, Int.reduceToNat, Nat.reduceLeDiff, UInt8.reduceOfNat, UInt8.reduceOfNatLT, and_self, Nat.reduceMul, decide_true, decide_false, Bool.not_true, Bool.not_false, implies_true]
    exact ⟨t, [], rfl, by simp, hs, by simp, by simp⟩
  rintro q vs bs ⟨cur, out, rfl, rfl, hol, hcl, hh, rfl⟩
  simp only [push_cast, reduceIte, Nat.reduceEqDiff, Nat.reduceAdd, Nat.reduceSub, Nat.reduceLT, Int.reduceNeg, Int.reduceLE, Int.reduceLT, Int.reduceToNat, Nat.reduceLeDiff, UInt8.reduceOfNat, UInt8.reduceOfNatLT, and_self, Nat.reduceMul, decide_true, decide_false, Bool.not_true, Bool.not_false, implies_true]
  apply vc_run 1000 (stop := false) rfl; simp only [push_cast, reduceIte, Nat.reduceEqDiff, Nat.reduceAdd, Nat.reduceSub, Nat.reduceLT, Int.reduceNeg, Int.reduceLE, Int.reduceLT, Int.reduceToNat, Nat.reduceLeDiff, UInt8.reduceOfNat, UInt8.reduceOfNatLT, and_self, Nat.reduceMul, decide_true, decide_false, Bool.not_true, Bool.not_false, implies_true]
  refine ⟨fun hlt => ?_, fun hge => ?_⟩
  · have hlt : out.length < m := Int.ofNat_lt.1 (of_decide_eq_true hlt)
    obtain ⟨d, hd⟩ : ∃ d, m - out.length = d + 1 := ⟨m - out.length - 1, by omega⟩
    have hd2 : m - (out.length + 1) = d := by omega
    rw [hd, headS] at hh
    refine Run.loop [10] [0, 1, 2, 6, 7, 8, 9] [1000001] rfl (fun q vs bs => ∃ k : Nat, vs = [.int .i64 k] ∧ bs = [[.own true ⟨.str, out⟩]] ∧ k ≤ cur.length ∧ noB (cur.take k) ∧ q = cur.length - k) cur.length ?_ ?_
    · simp only [push_cast, reduceIte, Nat.reduceEqDiff, Nat.reduceAdd, Nat.reduceSub, Nat.reduceLT, Int.reduceNeg, Int.reduceLE, Int.reduceLT, Int.reduceToNat, Nat.reduceLeDiff, UInt8.reduceOfNat, UInt8.reduceOfNatLT, and_self, Nat.reduceMul, decide_true, decide_false, Bool.not_true, Bool.not_false, implies_true]
      exact ⟨0, rfl, by omega, by rw [List.take_zero]; exact (fun x hx => by cases hx), by omega⟩
    rintro q vs bs ⟨k, rfl, rfl, hk, hnb, rfl⟩
    simp only [push_cast, reduceIte, Nat.reduceEqDiff, Nat.reduceAdd, Nat.reduceSub, Nat.reduceLT, Int.reduceNeg, Int.reduceLE, Int.reduceLT, Int.reduceToNat, Nat.reduceLeDiff, UInt8.reduceOfNat, UInt8.reduceOfNatLT, and_self, Nat.reduceMul, decide_true, decide_false, Bool.not_true, Bool.not_false, implies_true]
    apply vc_run 1000 (stop := false) rfl; simp only [push_cast, reduceIte, Nat.reduceEqDiff, Nat.reduceAdd, Nat.reduceSub, Nat.reduceLT, Int.reduceNeg, Int.reduceLE, Int.reduceLT, Int.reduceToNat, Nat.reduceLeDiff, UInt8.reduceOfNat, UInt8.reduceOfNatLT, and_self, Nat.reduceMul, decide_true, decide_false, Bool.not_true, Bool.not_false, implies_true]
    simp only [byteAt_k]
    have hx : (bif decide ((out.length : Int) = (m : Int) - 1) then !b else false) = (decide (d = 0) && !b) := by
      have : decide ((out.length : Int) = (m : Int) - 1) = decide (d = 0) := decide_eq_decide.2 (by omega)
      rw [this]; cases decide (d = 0) <;> rfl
    rw [hx]
    refine ⟨fun h => by have := of_decide_eq_true h; omega, fun hy => ?_, fun hn => ?_⟩
    · have hlk : k < cur.length := by
        by_cases h : (k : Int) < cur.length
        · omega
        · rw [decide_eq_false h] at hy; cases hy
      rw [decide_eq_true (show (k : Int) < cur.length by omega), cond_true] at hy
      exact ⟨by constructor <;> omega, _, by omega, k + 1, rfl, by omega, noB_step hnb hlk (by simpa using hy), rfl⟩
    · have hct : ct cur = (cur.take k, cur.drop (k + 1)) := by
        by_cases h : k < cur.length
        · rw [decide_eq_true (show (k : Int) < cur.length by omega), cond_true] at hn
          exact ct_at hnb h (by simpa using hn)
        · have e : k = cur.length := by omega
          subst e
          rw [List.take_length] at hnb ⊢
          rw [ct_end hnb, List.drop_eq_nil_of_le (by omega)]
      rw [hct] at hh
      have e1 : (cur.take k).length = k := by rw [List.length_take]; omega
      have e2 : decide ((k : Int) = cur.length) = decide (k = cur.length) := decide_eq_decide.2 (by omega)
      have e3 : cut cur (min ((k : Int) + 1) cur.length) cur.length = cur.drop (k + 1) := by
        unfold cut
        rw [Int.toNat_natCast, List.take_length]
        by_cases h : k + 1 ≤ cur.length
        · rw [show (min ((k : Int) + 1) cur.length).toNat = k + 1 by omega]
        · rw [show (min ((k : Int) + 1) cur.length).toNat = cur.length by omega, List.drop_length, List.drop_eq_nil_of_le (by omega)]
      have e4 : cut cur 0 (k : Int) = cur.take k := by simp [cut]
      have e5 : ((cur.take k = [] ∨ (decide (d = 0) && !b) ≠ decide (k = cur.length)) ↔ (bif decide ((k : Int) = 0) then true else !(decide (d = 0) && !b) == decide (k = cur.length)) = true) := by
        have hk0 : cur.take k = [] ↔ k = 0 := ⟨fun h => by rw [← e1, h]; rfl, fun h => by rw [h]; rfl⟩
        rw [hk0]
        by_cases h0 : k = 0
        · simp [h0]
        · have h0' : ¬ (k : Int) = 0 := by omega
          rw [decide_eq_false h0', cond_false]
          constructor
          · rintro (h | h)
            · exact absurd h h0
            · revert h
              cases (decide (d = 0) && !b) <;> cases decide (k = cur.length) <;> simp
          · intro h
            right
            revert h
            cases (decide (d = 0) && !b) <;> cases decide (k = cur.length) <;> simp
      simp only [e1] at hh
      rw [e2, e3, e4]
      refine ⟨by constructor <;> omega, fun h => ?_, fun h => ?_⟩
      · rw [if_pos (e5.2 h)] at hh
        rw [hh, List.append_nil]
      · rw [if_neg (fun e => by rw [e5.1 e] at h; cases h)] at hh
        refine ⟨by omega, by unfold sizeOk; omega, by constructor <;> omega, by omega, _, ?_, _, _, rfl, ?_, ?_, ?_, rfl⟩
        · rw [List.length_append]; simp only [List.length_cons, List.length_nil]; omega
        · rw [List.length_append]; simp only [List.length_cons, List.length_nil]; omega
        · rw [List.length_drop]; omega
        · rw [List.length_append]
          simp only [List.length_cons, List.length_nil, hd2]
          rw [hh, List.append_assoc]; rfl
  · have hge : out.length = m := by have := of_decide_eq_false hge; omega
    have e0 : m - out.length = 0 := by omega
    rw [e0, headS] at hh
    rw [hh, List.append_nil])
noncomputable def sp_callWordsD : Spec := ⟨[], [], true, fun
  | [] => some (none, .dat ⟨.str, [[99, 114, 101, 97, 116, 101], [101, 108, 101, 109, 101, 110, 116], [119, 111, 114, 100, 115], [97, 116, 116, 114], [114, 101, 109, 111, 118, 101], [115, 101, 116], [117, 110, 115, 97, 102, 101], [115, 97, 110, 105, 116, 105, 122, 101], [103, 101, 116]]⟩, [])
  | _ => none⟩
@[push_cast] theorem sp_callWordsD_ps : sp_callWordsD.ps = [] := rfl
@[push_cast] theorem sp_callWordsD_md : sp_callWordsD.modes = [] := rfl
@[push_cast] theorem sp_callWordsD_pure : sp_callWordsD.pure = true := rfl
@[push_cast] theorem sp_callWordsD_run : sp_callWordsD.run [] = some (none, .dat ⟨.str, [[99, 114, 101, 97, 116, 101], [101, 108, 101, 109, 101, 110, 116], [119, 111, 114, 100, 115], [97, 116, 116, 114], [114, 101, 109, 111, 118, 101], [115, 101, 116], [117, 110, 115, 97, 102, 101], [115, 97, 110, 105, 116, 105, 122, 101], [103, 101, 116]]⟩, []) := rfl
noncomputable def e_callWordsD : Env := mk [] [] [(0, [.frz 1])] [] none
@[push_cast] theorem e_callWordsD_in : e_callWordsD.inl = inlF [] := rfl
@[push_cast] theorem e_callWordsD_fn : e_callWordsD.fnd = fndF none := rfl
@[push_cast] theorem e_callWordsD_gh : e_callWordsD.gh = ghOf [(0, [.frz 1])] := rfl
@[push_cast] theorem e_callWordsD_dr : e_callWordsD.dr = drOf [] := rfl
@[push_cast] theorem e_callWordsD_td : e_callWordsD.td = td := rfl
@[push_cast] theorem e_callWordsD_eqt : e_callWordsD.eqt = eqt := rfl
@[push_cast] theorem e_callWordsD_cal : e_callWordsD.cal = calOf [] := rfl
theorem c_callWordsD : CRow P0 ety0 65 sp_callWordsD := CRow.of (E := e_callWordsD) (mkOk (.nil)) func65 rfl rfl rfl (by
  intro args p r outs h hq
  simp only [sp_callWordsD] at h; split at h <;> cases h
  refine Body.intro (rs := [.tmp 0]) rfl rfl rfl ?_
  apply vc_run 1000 (stop := false) rfl; simp only [push_cast, reduceIte, Nat.reduceEqDiff, Nat.reduceAdd, Nat.reduceSub, Nat.reduceLT, Int.reduceNeg, Int.reduceLE, Int.reduceLT, Int.reduceToNat, Nat.reduceLeDiff, UInt8.reduceOfNat, UInt8.reduceOfNatLT, and_self, Nat.reduceMul, decide_true, decide_false, Bool.not_true, Bool.not_false, implies_true])
noncomputable def e_l12ReadCall : Env := mk [(65, sp_callWordsD), (66, sp_parts), (67, sp_head), (68, sp_number2), (69, sp_l12ReadPath), (70, sp_callOK)] [(6, [], []), (30, [9], [[], [], [], [], [], [], [], [], [1]])] [] [] none
@[push_cast] theorem e_l12ReadCall_in : e_l12ReadCall.inl = inlF [] := rfl
@[push_cast] theorem e_l12ReadCall_fn : e_l12ReadCall.fnd = fndF none := rfl
@[push_cast] theorem e_l12ReadCall_gh : e_l12ReadCall.gh = ghOf [] := rfl
@[push_cast] theorem e_l12ReadCall_dr : e_l12ReadCall.dr = drOf [(6, [], []), (30, [9], [[], [], [], [], [], [], [], [], [1]])] := rfl
@[push_cast] theorem e_l12ReadCall_td : e_l12ReadCall.td = td := rfl
@[push_cast] theorem e_l12ReadCall_eqt : e_l12ReadCall.eqt = eqt := rfl
@[push_cast] theorem e_l12ReadCall_cal : e_l12ReadCall.cal = calOf [(65, sp_callWordsD), (66, sp_parts), (67, sp_head), (68, sp_number2), (69, sp_l12ReadPath), (70, sp_callOK)] := rfl
theorem c_l12ReadCall : CRow P0 ety0 34 sp_l12ReadCall := CRow.of (E := e_l12ReadCall) (mkOk (.cons c_callWordsD (.cons c_parts (.cons c_head (.cons c_l00Number (.cons c_l12ReadPath (.cons c_callOK2 (.nil)))))))) func34 rfl rfl rfl (by
  intro args p r outs h hq
  simp only [sp_l12ReadCall] at h; split at h <;> cases h
  rename_i t
  have hs := hq _ rfl
  refine Body.intro (rs := [.cell 2 32, .tmp 3]) rfl rfl rfl ?_
  apply vc_run 1000 (stop := false) rfl; simp only [push_cast, reduceIte, Nat.reduceEqDiff, Nat.reduceAdd, Nat.reduceSub, Nat.reduceLT, Int.reduceNeg, Int.reduceLE, Int.reduceLT, Int.reduceToNat, Nat.reduceLeDiff, UInt8.reduceOfNat, UInt8.reduceOfNatLT, and_self, Nat.reduceMul, decide_true, decide_false, Bool.not_true, Bool.not_false, implies_true]
  refine Run.loop [5] [0, 2, 4] [0, 2] rfl (fun n vs bs => ∃ k : Nat, vs = [.int .i64 k] ∧ bs = [[.int .i64 0, .int .i64 0, .int .i64 0, .nilS, .str [], .str []], [.int .i64 ((List.range k).foldl (fun (q : Int) i => bif matchT t (callWordT.getD i []) then (i : Int) + 1 else q) 0), .int .i64 0, .int .i64 0, .own true ⟨.int, []⟩, .str [], .str []]] ∧ k ≤ 9 ∧ n = 9 - k) 9 ?_ ?_
  · simp only [push_cast, reduceIte, Nat.reduceEqDiff, Nat.reduceAdd, Nat.reduceSub, Nat.reduceLT, Int.reduceNeg, Int.reduceLE, Int.reduceLT, Int.reduceToNat, Nat.reduceLeDiff, UInt8.reduceOfNat, UInt8.reduceOfNatLT, and_self, Nat.reduceMul, decide_true, decide_false, Bool.not_true, Bool.not_false, implies_true]
    exact ⟨0, rfl, rfl, by omega, rfl⟩
  rintro n vs bs ⟨k, rfl, rfl, hk, rfl⟩
  simp only [push_cast, reduceIte, Nat.reduceEqDiff, Nat.reduceAdd, Nat.reduceSub, Nat.reduceLT, Int.reduceNeg, Int.reduceLE, Int.reduceLT, Int.reduceToNat, Nat.reduceLeDiff, UInt8.reduceOfNat, UInt8.reduceOfNatLT, and_self, Nat.reduceMul, decide_true, decide_false, Bool.not_true, Bool.not_false, implies_true]
  apply vc_run 1000 (stop := true) rfl; simp only [push_cast, reduceIte, Nat.reduceEqDiff, Nat.reduceAdd, Nat.reduceSub, Nat.reduceLT, Int.reduceNeg, Int.reduceLE, Int.reduceLT, Int.reduceToNat, Nat.reduceLeDiff, UInt8.reduceOfNat, UInt8.reduceOfNatLT, and_self, Nat.reduceMul, decide_true, decide_false, Bool.not_true, Bool.not_false, implies_true]
  refine Run.cond rfl (fun ht => ?_) (fun hf => ?_)
  · have ht : k < 9 := by have := of_decide_eq_true ht; omega
    apply vc_run 1000 (stop := false) rfl; simp only [push_cast, reduceIte, Nat.reduceEqDiff, Nat.reduceAdd, Nat.reduceSub, Nat.reduceLT, Int.reduceNeg, Int.reduceLE, Int.reduceLT, Int.reduceToNat, Nat.reduceLeDiff, UInt8.reduceOfNat, UInt8.reduceOfNatLT, and_self, Nat.reduceMul, decide_true, decide_false, Bool.not_true, Bool.not_false, implies_true]
    have hw : ∀ x : Int, gd [[99, 114, 101, 97, 116, 101], [101, 108, 101, 109, 101, 110, 116], [119, 111, 114, 100, 115], [97, 116, 116, 114], [114, 101, 109, 111, 118, 101], [115, 101, 116], [117, 110, 115, 97, 102, 101], [115, 97, 110, 105, 116, 105, 122, 101], [103, 101, 116]] ([] : Str) x = gd callWordT [] x := fun _ => rfl
    simp only [hw, gd_nat, byteAt_k]
    generalize hW : callWordT.getD k [] = W
    have ecut : cut t 0 (W.length : Nat) = t.take W.length := by simp [cut]
    have edec : decide ((W.length : Int) < t.length) = decide (W.length < t.length) := decide_eq_decide.2 (by omega)
    have em : (bif bif decide (W.length < t.length) then decide (t.take W.length = W) else false then decide (t.getD W.length 0 = 32) else false) = matchT t W := by
      unfold matchT
      cases decide (W.length < t.length) <;> cases decide (t.take W.length = W) <;> rfl
    simp only [ecut, edec, em]
    have hst : (List.range (k + 1)).foldl (fun (q : Int) i => bif matchT t (callWordT.getD i []) then (i : Int) + 1 else q) 0 = bif matchT t W then (k : Int) + 1 else (List.range k).foldl (fun (q : Int) i => bif matchT t (callWordT.getD i []) then (i : Int) + 1 else q) 0 := by
      rw [List.range_succ, List.foldl_append]; simp only [List.foldl_cons, List.foldl_nil, hW]
    refine ⟨by omega, fun h => ?_, fun h => by omega, fun h => ?_, fun h => ?_, fun h => ?_⟩
    · have := of_decide_eq_true h; omega
    · have : W.length < t.length := by
        cases h1 : decide (W.length < t.length) with
        | false => rw [h1] at h; cases h
        | true => exact of_decide_eq_true h1
      omega
    · exact ⟨by constructor <;> omega, by constructor <;> omega, _, by omega, k + 1, rfl, by rw [hst, h]; rfl, by omega, rfl⟩
    · exact ⟨by constructor <;> omega, _, by omega, k + 1, rfl, by rw [hst, h]; rfl, by omega, rfl⟩
  apply vc_run 1000 (stop := true) rfl; simp only [push_cast, reduceIte, Nat.reduceEqDiff, Nat.reduceAdd, Nat.reduceSub, Nat.reduceLT, Int.reduceNeg, Int.reduceLE, Int.reduceLT, Int.reduceToNat, Nat.reduceLeDiff, UInt8.reduceOfNat, UInt8.reduceOfNatLT, and_self, Nat.reduceMul, decide_true, decide_false, Bool.not_true, Bool.not_false, implies_true]
  have hk9 : k = 9 := by have := of_decide_eq_false hf; omega
  subst hk9
  have hK : (List.range 9).foldl (fun (q : Int) i => bif matchT t (callWordT.getD i []) then (i : Int) + 1 else q) 0 = kindS t := rfl
  rw [hK]
  have hK9 : kindS t = 0 ∨ kindS t = 1 ∨ kindS t = 2 ∨ kindS t = 3 ∨ kindS t = 4 ∨ kindS t = 5 ∨ kindS t = 6 ∨ kindS t = 7 ∨ kindS t = 8 ∨ kindS t = 9 := by
    rcases kindS_cases t with h | ⟨i, hi, _, h⟩ <;> omega
  rcases hK9 with h | h | h | h | h | h | h | h | h | h
  all_goals rw [h]
  · refine Run.cond rfl (fun _ => ?_) (fun h => absurd h (by decide))
    apply vc_run 1000 (stop := false) rfl; simp only [push_cast, reduceIte, Nat.reduceEqDiff, Nat.reduceAdd, Nat.reduceSub, Nat.reduceLT, Int.reduceNeg, Int.reduceLE, Int.reduceLT, Int.reduceToNat, Nat.reduceLeDiff, UInt8.reduceOfNat, UInt8.reduceOfNatLT, and_self, Nat.reduceMul, decide_true, decide_false, Bool.not_true, Bool.not_false, implies_true]
    rw [rcS, if_pos h]; simp [kall0]
  · refine Run.cond rfl (fun h => absurd h (by decide)) (fun _ => ?_)
    apply vc_run 1000 (stop := true) rfl; simp only [push_cast, reduceIte, Nat.reduceEqDiff, Nat.reduceAdd, Nat.reduceSub, Nat.reduceLT, Int.reduceNeg, Int.reduceLE, Int.reduceLT, Int.reduceToNat, Nat.reduceLeDiff, UInt8.reduceOfNat, UInt8.reduceOfNatLT, and_self, Nat.reduceMul, decide_true, decide_false, Bool.not_true, Bool.not_false, implies_true]
    have en : gd partN 0 (1 - 1) = 3 := rfl
    have eb : hasText 1 = false := rfl
    rw [en, eb]
    simp only [Int.reduceToNat]
    refine ⟨⟨by omega, by omega, by omega⟩, ?_⟩
    have hr0 : ∀ {w : List Str} {r : Str}, headS 3 false t = (w, r, true) → rcS t = (rcK 1 w r, rcB 1 w && numOK (w.getD 1 []) && callOK (rcK 1 w r)) := fun {w r} e => rcS_of h (by decide) (by rw [en]) (by rw [eb]; exact e)
    have hr1 : (headS 3 false t).2.2 = false → rcS t = (⟨1, 0, 0, [], [], []⟩, false) := fun e => by rw [rcS, h, if_neg (by decide), en, eb]; exact if_pos e
    have hok := headS_ok 3 false t
    have hlen := headS_len 3 false t
    generalize headS 3 false t = H at *
    obtain ⟨w, r, q⟩ := H
    simp only at hr1 hok hlen ⊢
    cases q with
    | false =>
      refine Run.cond rfl (fun _ => ?_) (fun h => absurd h (by decide))
      apply vc_run 1000 (stop := false) rfl; simp only [push_cast, reduceIte, Nat.reduceEqDiff, Nat.reduceAdd, Nat.reduceSub, Nat.reduceLT, Int.reduceNeg, Int.reduceLE, Int.reduceLT, Int.reduceToNat, Nat.reduceLeDiff, UInt8.reduceOfNat, UInt8.reduceOfNatLT, and_self, Nat.reduceMul, decide_true, decide_false, Bool.not_true, Bool.not_false, implies_true]
      rw [hr1 rfl]
    | true =>
      rw [hr0 rfl]
      obtain ⟨a1, _⟩ := hok rfl
      refine Run.cond rfl (fun h => absurd h (by decide)) (fun _ => ?_)
      obtain ⟨w0, w1, w2, rfl⟩ : ∃ w0 w1 w2, w = [w0, w1, w2] := by
        match w, a1 with
        | [w0, w1, w2], _ => exact ⟨w0, w1, w2, rfl⟩
      simp only [sumL, List.map_cons, List.map_nil, List.sum_cons, List.sum_nil] at hlen
      have hpl := rpS_len w2
      apply vc_run 1000 (stop := true) rfl; simp only [push_cast, reduceIte, Nat.reduceEqDiff, Nat.reduceAdd, Nat.reduceSub, Nat.reduceLT, Int.reduceNeg, Int.reduceLE, Int.reduceLT, Int.reduceToNat, Nat.reduceLeDiff, UInt8.reduceOfNat, UInt8.reduceOfNatLT, and_self, Nat.reduceMul, decide_true, decide_false, Bool.not_true, Bool.not_false, implies_true]
      repeat (refine And.intro (by first | decide | (show w1.length ≤ _; omega)) ?_)
      repeat ((first | refine Run.cond rfl (fun h => absurd h (by decide)) (fun _ => ?_) | refine Run.cond rfl (fun _ => ?_) (fun h => absurd h (by decide))); apply vc_run 1000 (stop := true) rfl; simp only [push_cast, reduceIte, Nat.reduceEqDiff, Nat.reduceAdd, Nat.reduceSub, Nat.reduceLT, Int.reduceNeg, Int.reduceLE, Int.reduceLT, Int.reduceToNat, Nat.reduceLeDiff, UInt8.reduceOfNat, UInt8.reduceOfNatLT, and_self, Nat.reduceMul, decide_true, decide_false, Bool.not_true, Bool.not_false, implies_true]; (repeat (refine And.intro (by first | decide | (show w2.length ≤ _; omega)) ?_)))
      have g1 : gd [w0, w1, w2] [] 1 = w1 := rfl
      have g2 : gd [w0, w1, w2] [] 2 = w2 := rfl
      have eK : rcK 1 [w0, w1, w2] r = ⟨1, numV w1, 0, [], w2, r⟩ := rfl
      have eB : rcB 1 [w0, w1, w2] = true := rfl
      rw [eK, eB]
      simp only [g1, g2]
      refine ⟨fun _ => by simp only [szKall, List.length_nil]; omega, ?_⟩
      cases numOK w1 <;> cases (true) <;> rfl
  · refine Run.cond rfl (fun h => absurd h (by decide)) (fun _ => ?_)
    apply vc_run 1000 (stop := true) rfl; simp only [push_cast, reduceIte, Nat.reduceEqDiff, Nat.reduceAdd, Nat.reduceSub, Nat.reduceLT, Int.reduceNeg, Int.reduceLE, Int.reduceLT, Int.reduceToNat, Nat.reduceLeDiff, UInt8.reduceOfNat, UInt8.reduceOfNatLT, and_self, Nat.reduceMul, decide_true, decide_false, Bool.not_true, Bool.not_false, implies_true]
    have en : gd partN 0 (2 - 1) = 4 := rfl
    have eb : hasText 2 = false := rfl
    rw [en, eb]
    simp only [Int.reduceToNat]
    refine ⟨⟨by omega, by omega, by omega⟩, ?_⟩
    have hr0 : ∀ {w : List Str} {r : Str}, headS 4 false t = (w, r, true) → rcS t = (rcK 2 w r, rcB 2 w && numOK (w.getD 1 []) && callOK (rcK 2 w r)) := fun {w r} e => rcS_of h (by decide) (by rw [en]) (by rw [eb]; exact e)
    have hr1 : (headS 4 false t).2.2 = false → rcS t = (⟨2, 0, 0, [], [], []⟩, false) := fun e => by rw [rcS, h, if_neg (by decide), en, eb]; exact if_pos e
    have hok := headS_ok 4 false t
    have hlen := headS_len 4 false t
    generalize headS 4 false t = H at *
    obtain ⟨w, r, q⟩ := H
    simp only at hr1 hok hlen ⊢
    cases q with
    | false =>
      refine Run.cond rfl (fun _ => ?_) (fun h => absurd h (by decide))
      apply vc_run 1000 (stop := false) rfl; simp only [push_cast, reduceIte, Nat.reduceEqDiff, Nat.reduceAdd, Nat.reduceSub, Nat.reduceLT, Int.reduceNeg, Int.reduceLE, Int.reduceLT, Int.reduceToNat, Nat.reduceLeDiff, UInt8.reduceOfNat, UInt8.reduceOfNatLT, and_self, Nat.reduceMul, decide_true, decide_false, Bool.not_true, Bool.not_false, implies_true]
      rw [hr1 rfl]
    | true =>
      rw [hr0 rfl]
      obtain ⟨a1, _⟩ := hok rfl
      refine Run.cond rfl (fun h => absurd h (by decide)) (fun _ => ?_)
      obtain ⟨w0, w1, w2, w3, rfl⟩ : ∃ w0 w1 w2 w3, w = [w0, w1, w2, w3] := by
        match w, a1 with
        | [w0, w1, w2, w3], _ => exact ⟨w0, w1, w2, w3, rfl⟩
      simp only [sumL, List.map_cons, List.map_nil, List.sum_cons, List.sum_nil] at hlen
      have hpl := rpS_len w2
      apply vc_run 1000 (stop := true) rfl; simp only [push_cast, reduceIte, Nat.reduceEqDiff, Nat.reduceAdd, Nat.reduceSub, Nat.reduceLT, Int.reduceNeg, Int.reduceLE, Int.reduceLT, Int.reduceToNat, Nat.reduceLeDiff, UInt8.reduceOfNat, UInt8.reduceOfNatLT, and_self, Nat.reduceMul, decide_true, decide_false, Bool.not_true, Bool.not_false, implies_true]
      repeat (refine And.intro (by first | decide | (show w1.length ≤ _; omega)) ?_)
      repeat ((first | refine Run.cond rfl (fun h => absurd h (by decide)) (fun _ => ?_) | refine Run.cond rfl (fun _ => ?_) (fun h => absurd h (by decide))); apply vc_run 1000 (stop := true) rfl; simp only [push_cast, reduceIte, Nat.reduceEqDiff, Nat.reduceAdd, Nat.reduceSub, Nat.reduceLT, Int.reduceNeg, Int.reduceLE, Int.reduceLT, Int.reduceToNat, Nat.reduceLeDiff, UInt8.reduceOfNat, UInt8.reduceOfNatLT, and_self, Nat.reduceMul, decide_true, decide_false, Bool.not_true, Bool.not_false, implies_true]; (repeat (refine And.intro (by first | decide | (show w2.length ≤ _; omega)) ?_)))
      have g1 : gd [w0, w1, w2, w3] [] 1 = w1 := rfl
      have g2 : gd [w0, w1, w2, w3] [] 2 = w2 := rfl
      have g3 : gd [w0, w1, w2, w3] [] 3 = w3 := rfl
      have eK : rcK 2 [w0, w1, w2, w3] r = ⟨2, numV w1, 0, (rpS w2).1, w3, r⟩ := rfl
      have eB : rcB 2 [w0, w1, w2, w3] = (rpS w2).2 := rfl
      rw [eK, eB]
      simp only [g1, g2, g3]
      refine ⟨fun _ => by simp only [szKall, List.length_nil]; omega, ?_⟩
      cases numOK w1 <;> cases ((rpS w2).2) <;> rfl
  · refine Run.cond rfl (fun h => absurd h (by decide)) (fun _ => ?_)
    apply vc_run 1000 (stop := true) rfl; simp only [push_cast, reduceIte, Nat.reduceEqDiff, Nat.reduceAdd, Nat.reduceSub, Nat.reduceLT, Int.reduceNeg, Int.reduceLE, Int.reduceLT, Int.reduceToNat, Nat.reduceLeDiff, UInt8.reduceOfNat, UInt8.reduceOfNatLT, and_self, Nat.reduceMul, decide_true, decide_false, Bool.not_true, Bool.not_false, implies_true]
    have en : gd partN 0 (3 - 1) = 3 := rfl
    have eb : hasText 3 = true := rfl
    rw [en, eb]
    simp only [Int.reduceToNat]
    refine ⟨⟨by omega, by omega, by omega⟩, ?_⟩
    have hr0 : ∀ {w : List Str} {r : Str}, headS 3 true t = (w, r, true) → rcS t = (rcK 3 w r, rcB 3 w && numOK (w.getD 1 []) && callOK (rcK 3 w r)) := fun {w r} e => rcS_of h (by decide) (by rw [en]) (by rw [eb]; exact e)
    have hr1 : (headS 3 true t).2.2 = false → rcS t = (⟨3, 0, 0, [], [], []⟩, false) := fun e => by rw [rcS, h, if_neg (by decide), en, eb]; exact if_pos e
    have hok := headS_ok 3 true t
    have hlen := headS_len 3 true t
    generalize headS 3 true t = H at *
    obtain ⟨w, r, q⟩ := H
    simp only at hr1 hok hlen ⊢
    cases q with
    | false =>
      refine Run.cond rfl (fun _ => ?_) (fun h => absurd h (by decide))
      apply vc_run 1000 (stop := false) rfl; simp only [push_cast, reduceIte, Nat.reduceEqDiff, Nat.reduceAdd, Nat.reduceSub, Nat.reduceLT, Int.reduceNeg, Int.reduceLE, Int.reduceLT, Int.reduceToNat, Nat.reduceLeDiff, UInt8.reduceOfNat, UInt8.reduceOfNatLT, and_self, Nat.reduceMul, decide_true, decide_false, Bool.not_true, Bool.not_false, implies_true]
      rw [hr1 rfl]
    | true =>
      rw [hr0 rfl]
      obtain ⟨a1, _⟩ := hok rfl
      refine Run.cond rfl (fun h => absurd h (by decide)) (fun _ => ?_)
      obtain ⟨w0, w1, w2, rfl⟩ : ∃ w0 w1 w2, w = [w0, w1, w2] := by
        match w, a1 with
        | [w0, w1, w2], _ => exact ⟨w0, w1, w2, rfl⟩
      simp only [sumL, List.map_cons, List.map_nil, List.sum_cons, List.sum_nil] at hlen
      have hpl := rpS_len w2
      apply vc_run 1000 (stop := true) rfl; simp only [push_cast, reduceIte, Nat.reduceEqDiff, Nat.reduceAdd, Nat.reduceSub, Nat.reduceLT, Int.reduceNeg, Int.reduceLE, Int.reduceLT, Int.reduceToNat, Nat.reduceLeDiff, UInt8.reduceOfNat, UInt8.reduceOfNatLT, and_self, Nat.reduceMul, decide_true, decide_false, Bool.not_true, Bool.not_false, implies_true]
      repeat (refine And.intro (by first | decide | (show w1.length ≤ _; omega)) ?_)
      repeat ((first | refine Run.cond rfl (fun h => absurd h (by decide)) (fun _ => ?_) | refine Run.cond rfl (fun _ => ?_) (fun h => absurd h (by decide))); apply vc_run 1000 (stop := true) rfl; simp only [push_cast, reduceIte, Nat.reduceEqDiff, Nat.reduceAdd, Nat.reduceSub, Nat.reduceLT, Int.reduceNeg, Int.reduceLE, Int.reduceLT, Int.reduceToNat, Nat.reduceLeDiff, UInt8.reduceOfNat, UInt8.reduceOfNatLT, and_self, Nat.reduceMul, decide_true, decide_false, Bool.not_true, Bool.not_false, implies_true]; (repeat (refine And.intro (by first | decide | (show w2.length ≤ _; omega)) ?_)))
      have g1 : gd [w0, w1, w2] [] 1 = w1 := rfl
      have g2 : gd [w0, w1, w2] [] 2 = w2 := rfl
      have eK : rcK 3 [w0, w1, w2] r = ⟨3, numV w1, 0, (rpS w2).1, [], r⟩ := rfl
      have eB : rcB 3 [w0, w1, w2] = (rpS w2).2 := rfl
      rw [eK, eB]
      simp only [g1, g2]
      refine ⟨fun _ => by simp only [szKall, List.length_nil]; omega, ?_⟩
      cases numOK w1 <;> cases ((rpS w2).2) <;> rfl
  · refine Run.cond rfl (fun h => absurd h (by decide)) (fun _ => ?_)
    apply vc_run 1000 (stop := true) rfl; simp only [push_cast, reduceIte, Nat.reduceEqDiff, Nat.reduceAdd, Nat.reduceSub, Nat.reduceLT, Int.reduceNeg, Int.reduceLE, Int.reduceLT, Int.reduceToNat, Nat.reduceLeDiff, UInt8.reduceOfNat, UInt8.reduceOfNatLT, and_self, Nat.reduceMul, decide_true, decide_false, Bool.not_true, Bool.not_false, implies_true]
    have en : gd partN 0 (4 - 1) = 4 := rfl
    have eb : hasText 4 = true := rfl
    rw [en, eb]
    simp only [Int.reduceToNat]
    refine ⟨⟨by omega, by omega, by omega⟩, ?_⟩
    have hr0 : ∀ {w : List Str} {r : Str}, headS 4 true t = (w, r, true) → rcS t = (rcK 4 w r, rcB 4 w && numOK (w.getD 1 []) && callOK (rcK 4 w r)) := fun {w r} e => rcS_of h (by decide) (by rw [en]) (by rw [eb]; exact e)
    have hr1 : (headS 4 true t).2.2 = false → rcS t = (⟨4, 0, 0, [], [], []⟩, false) := fun e => by rw [rcS, h, if_neg (by decide), en, eb]; exact if_pos e
    have hok := headS_ok 4 true t
    have hlen := headS_len 4 true t
    generalize headS 4 true t = H at *
    obtain ⟨w, r, q⟩ := H
    simp only at hr1 hok hlen ⊢
    cases q with
    | false =>
      refine Run.cond rfl (fun _ => ?_) (fun h => absurd h (by decide))
      apply vc_run 1000 (stop := false) rfl; simp only [push_cast, reduceIte, Nat.reduceEqDiff, Nat.reduceAdd, Nat.reduceSub, Nat.reduceLT, Int.reduceNeg, Int.reduceLE, Int.reduceLT, Int.reduceToNat, Nat.reduceLeDiff, UInt8.reduceOfNat, UInt8.reduceOfNatLT, and_self, Nat.reduceMul, decide_true, decide_false, Bool.not_true, Bool.not_false, implies_true]
      rw [hr1 rfl]
    | true =>
      rw [hr0 rfl]
      obtain ⟨a1, _⟩ := hok rfl
      refine Run.cond rfl (fun h => absurd h (by decide)) (fun _ => ?_)
      obtain ⟨w0, w1, w2, w3, rfl⟩ : ∃ w0 w1 w2 w3, w = [w0, w1, w2, w3] := by
        match w, a1 with
        | [w0, w1, w2, w3], _ => exact ⟨w0, w1, w2, w3, rfl⟩
      simp only [sumL, List.map_cons, List.map_nil, List.sum_cons, List.sum_nil] at hlen
      have hpl := rpS_len w2
      apply vc_run 1000 (stop := true) rfl; simp only [push_cast, reduceIte, Nat.reduceEqDiff, Nat.reduceAdd, Nat.reduceSub, Nat.reduceLT, Int.reduceNeg, Int.reduceLE, Int.reduceLT, Int.reduceToNat, Nat.reduceLeDiff, UInt8.reduceOfNat, UInt8.reduceOfNatLT, and_self, Nat.reduceMul, decide_true, decide_false, Bool.not_true, Bool.not_false, implies_true]
      repeat (refine And.intro (by first | decide | (show w1.length ≤ _; omega)) ?_)
      repeat ((first | refine Run.cond rfl (fun h => absurd h (by decide)) (fun _ => ?_) | refine Run.cond rfl (fun _ => ?_) (fun h => absurd h (by decide))); apply vc_run 1000 (stop := true) rfl; simp only [push_cast, reduceIte, Nat.reduceEqDiff, Nat.reduceAdd, Nat.reduceSub, Nat.reduceLT, Int.reduceNeg, Int.reduceLE, Int.reduceLT, Int.reduceToNat, Nat.reduceLeDiff, UInt8.reduceOfNat, UInt8.reduceOfNatLT, and_self, Nat.reduceMul, decide_true, decide_false, Bool.not_true, Bool.not_false, implies_true]; (repeat (refine And.intro (by first | decide | (show w2.length ≤ _; omega)) ?_)))
      have g1 : gd [w0, w1, w2, w3] [] 1 = w1 := rfl
      have g2 : gd [w0, w1, w2, w3] [] 2 = w2 := rfl
      have g3 : gd [w0, w1, w2, w3] [] 3 = w3 := rfl
      have eK : rcK 4 [w0, w1, w2, w3] r = ⟨4, numV w1, 0, (rpS w2).1, w3, r⟩ := rfl
      have eB : rcB 4 [w0, w1, w2, w3] = (rpS w2).2 := rfl
      rw [eK, eB]
      simp only [g1, g2, g3]
      refine ⟨fun _ => by simp only [szKall, List.length_nil]; omega, ?_⟩
      cases numOK w1 <;> cases ((rpS w2).2) <;> rfl
  · refine Run.cond rfl (fun h => absurd h (by decide)) (fun _ => ?_)
    apply vc_run 1000 (stop := true) rfl; simp only [push_cast, reduceIte, Nat.reduceEqDiff, Nat.reduceAdd, Nat.reduceSub, Nat.reduceLT, Int.reduceNeg, Int.reduceLE, Int.reduceLT, Int.reduceToNat, Nat.reduceLeDiff, UInt8.reduceOfNat, UInt8.reduceOfNatLT, and_self, Nat.reduceMul, decide_true, decide_false, Bool.not_true, Bool.not_false, implies_true]
    have en : gd partN 0 (5 - 1) = 3 := rfl
    have eb : hasText 5 = false := rfl
    rw [en, eb]
    simp only [Int.reduceToNat]
    refine ⟨⟨by omega, by omega, by omega⟩, ?_⟩
    have hr0 : ∀ {w : List Str} {r : Str}, headS 3 false t = (w, r, true) → rcS t = (rcK 5 w r, rcB 5 w && numOK (w.getD 1 []) && callOK (rcK 5 w r)) := fun {w r} e => rcS_of h (by decide) (by rw [en]) (by rw [eb]; exact e)
    have hr1 : (headS 3 false t).2.2 = false → rcS t = (⟨5, 0, 0, [], [], []⟩, false) := fun e => by rw [rcS, h, if_neg (by decide), en, eb]; exact if_pos e
    have hok := headS_ok 3 false t
    have hlen := headS_len 3 false t
    generalize headS 3 false t = H at *
    obtain ⟨w, r, q⟩ := H
    simp only at hr1 hok hlen ⊢
    cases q with
    | false =>
      refine Run.cond rfl (fun _ => ?_) (fun h => absurd h (by decide))
      apply vc_run 1000 (stop := false) rfl; simp only [push_cast, reduceIte, Nat.reduceEqDiff, Nat.reduceAdd, Nat.reduceSub, Nat.reduceLT, Int.reduceNeg, Int.reduceLE, Int.reduceLT, Int.reduceToNat, Nat.reduceLeDiff, UInt8.reduceOfNat, UInt8.reduceOfNatLT, and_self, Nat.reduceMul, decide_true, decide_false, Bool.not_true, Bool.not_false, implies_true]
      rw [hr1 rfl]
    | true =>
      rw [hr0 rfl]
      obtain ⟨a1, _⟩ := hok rfl
      refine Run.cond rfl (fun h => absurd h (by decide)) (fun _ => ?_)
      obtain ⟨w0, w1, w2, rfl⟩ : ∃ w0 w1 w2, w = [w0, w1, w2] := by
        match w, a1 with
        | [w0, w1, w2], _ => exact ⟨w0, w1, w2, rfl⟩
      simp only [sumL, List.map_cons, List.map_nil, List.sum_cons, List.sum_nil] at hlen
      have hpl := rpS_len w2
      apply vc_run 1000 (stop := true) rfl; simp only [push_cast, reduceIte, Nat.reduceEqDiff, Nat.reduceAdd, Nat.reduceSub, Nat.reduceLT, Int.reduceNeg, Int.reduceLE, Int.reduceLT, Int.reduceToNat, Nat.reduceLeDiff, UInt8.reduceOfNat, UInt8.reduceOfNatLT, and_self, Nat.reduceMul, decide_true, decide_false, Bool.not_true, Bool.not_false, implies_true]
      repeat (refine And.intro (by first | decide | (show w1.length ≤ _; omega)) ?_)
      repeat ((first | refine Run.cond rfl (fun h => absurd h (by decide)) (fun _ => ?_) | refine Run.cond rfl (fun _ => ?_) (fun h => absurd h (by decide))); apply vc_run 1000 (stop := true) rfl; simp only [push_cast, reduceIte, Nat.reduceEqDiff, Nat.reduceAdd, Nat.reduceSub, Nat.reduceLT, Int.reduceNeg, Int.reduceLE, Int.reduceLT, Int.reduceToNat, Nat.reduceLeDiff, UInt8.reduceOfNat, UInt8.reduceOfNatLT, and_self, Nat.reduceMul, decide_true, decide_false, Bool.not_true, Bool.not_false, implies_true]; (repeat (refine And.intro (by first | decide | (show w2.length ≤ _; omega)) ?_)))
      have g1 : gd [w0, w1, w2] [] 1 = w1 := rfl
      have g2 : gd [w0, w1, w2] [] 2 = w2 := rfl
      have eK : rcK 5 [w0, w1, w2] r = ⟨5, numV w1, 0, (rpS w2).1, [], r⟩ := rfl
      have eB : rcB 5 [w0, w1, w2] = (rpS w2).2 := rfl
      rw [eK, eB]
      simp only [g1, g2]
      refine ⟨fun _ => by simp only [szKall, List.length_nil]; omega, ?_⟩
      cases numOK w1 <;> cases ((rpS w2).2) <;> rfl
  · refine Run.cond rfl (fun h => absurd h (by decide)) (fun _ => ?_)
    apply vc_run 1000 (stop := true) rfl; simp only [push_cast, reduceIte, Nat.reduceEqDiff, Nat.reduceAdd, Nat.reduceSub, Nat.reduceLT, Int.reduceNeg, Int.reduceLE, Int.reduceLT, Int.reduceToNat, Nat.reduceLeDiff, UInt8.reduceOfNat, UInt8.reduceOfNatLT, and_self, Nat.reduceMul, decide_true, decide_false, Bool.not_true, Bool.not_false, implies_true]
    have en : gd partN 0 (6 - 1) = 3 := rfl
    have eb : hasText 6 = true := rfl
    rw [en, eb]
    simp only [Int.reduceToNat]
    refine ⟨⟨by omega, by omega, by omega⟩, ?_⟩
    have hr0 : ∀ {w : List Str} {r : Str}, headS 3 true t = (w, r, true) → rcS t = (rcK 6 w r, rcB 6 w && numOK (w.getD 1 []) && callOK (rcK 6 w r)) := fun {w r} e => rcS_of h (by decide) (by rw [en]) (by rw [eb]; exact e)
    have hr1 : (headS 3 true t).2.2 = false → rcS t = (⟨6, 0, 0, [], [], []⟩, false) := fun e => by rw [rcS, h, if_neg (by decide), en, eb]; exact if_pos e
    have hok := headS_ok 3 true t
    have hlen := headS_len 3 true t
    generalize headS 3 true t = H at *
    obtain ⟨w, r, q⟩ := H
    simp only at hr1 hok hlen ⊢
    cases q with
    | false =>
      refine Run.cond rfl (fun _ => ?_) (fun h => absurd h (by decide))
      apply vc_run 1000 (stop := false) rfl; simp only [push_cast, reduceIte, Nat.reduceEqDiff, Nat.reduceAdd, Nat.reduceSub, Nat.reduceLT, Int.reduceNeg, Int.reduceLE, Int.reduceLT, Int.reduceToNat, Nat.reduceLeDiff, UInt8.reduceOfNat, UInt8.reduceOfNatLT, and_self, Nat.reduceMul, decide_true, decide_false, Bool.not_true, Bool.not_false, implies_true]
      rw [hr1 rfl]
    | true =>
      rw [hr0 rfl]
      obtain ⟨a1, _⟩ := hok rfl
      refine Run.cond rfl (fun h => absurd h (by decide)) (fun _ => ?_)
      obtain ⟨w0, w1, w2, rfl⟩ : ∃ w0 w1 w2, w = [w0, w1, w2] := by
        match w, a1 with
        | [w0, w1, w2], _ => exact ⟨w0, w1, w2, rfl⟩
      simp only [sumL, List.map_cons, List.map_nil, List.sum_cons, List.sum_nil] at hlen
      have hpl := rpS_len w2
      apply vc_run 1000 (stop := true) rfl; simp only [push_cast, reduceIte, Nat.reduceEqDiff, Nat.reduceAdd, Nat.reduceSub, Nat.reduceLT, Int.reduceNeg, Int.reduceLE, Int.reduceLT, Int.reduceToNat, Nat.reduceLeDiff, UInt8.reduceOfNat, UInt8.reduceOfNatLT, and_self, Nat.reduceMul, decide_true, decide_false, Bool.not_true, Bool.not_false, implies_true]
      repeat (refine And.intro (by first | decide | (show w1.length ≤ _; omega)) ?_)
      repeat ((first | refine Run.cond rfl (fun h => absurd h (by decide)) (fun _ => ?_) | refine Run.cond rfl (fun _ => ?_) (fun h => absurd h (by decide))); apply vc_run 1000 (stop := true) rfl; simp only [push_cast, reduceIte, Nat.reduceEqDiff, Nat.reduceAdd, Nat.reduceSub, Nat.reduceLT, Int.reduceNeg, Int.reduceLE, Int.reduceLT, Int.reduceToNat, Nat.reduceLeDiff, UInt8.reduceOfNat, UInt8.reduceOfNatLT, and_self, Nat.reduceMul, decide_true, decide_false, Bool.not_true, Bool.not_false, implies_true]; (repeat (refine And.intro (by first | decide | (show w2.length ≤ _; omega)) ?_)))
      have g1 : gd [w0, w1, w2] [] 1 = w1 := rfl
      have g2 : gd [w0, w1, w2] [] 2 = w2 := rfl
      have eK : rcK 6 [w0, w1, w2] r = ⟨6, numV w1, numV w2, [], [], r⟩ := rfl
      have eB : rcB 6 [w0, w1, w2] = numOK w2 := rfl
      rw [eK, eB]
      simp only [g1, g2]
      refine ⟨fun _ => by simp only [szKall, List.length_nil]; omega, ?_⟩
      cases numOK w1 <;> cases (numOK w2) <;> rfl
  · refine Run.cond rfl (fun h => absurd h (by decide)) (fun _ => ?_)
    apply vc_run 1000 (stop := true) rfl; simp only [push_cast, reduceIte, Nat.reduceEqDiff, Nat.reduceAdd, Nat.reduceSub, Nat.reduceLT, Int.reduceNeg, Int.reduceLE, Int.reduceLT, Int.reduceToNat, Nat.reduceLeDiff, UInt8.reduceOfNat, UInt8.reduceOfNatLT, and_self, Nat.reduceMul, decide_true, decide_false, Bool.not_true, Bool.not_false, implies_true]
    have en : gd partN 0 (7 - 1) = 2 := rfl
    have eb : hasText 7 = true := rfl
    rw [en, eb]
    simp only [Int.reduceToNat]
    refine ⟨⟨by omega, by omega, by omega⟩, ?_⟩
    have hr0 : ∀ {w : List Str} {r : Str}, headS 2 true t = (w, r, true) → rcS t = (rcK 7 w r, rcB 7 w && numOK (w.getD 1 []) && callOK (rcK 7 w r)) := fun {w r} e => rcS_of h (by decide) (by rw [en]) (by rw [eb]; exact e)
    have hr1 : (headS 2 true t).2.2 = false → rcS t = (⟨7, 0, 0, [], [], []⟩, false) := fun e => by rw [rcS, h, if_neg (by decide), en, eb]; exact if_pos e
    have hok := headS_ok 2 true t
    have hlen := headS_len 2 true t
    generalize headS 2 true t = H at *
    obtain ⟨w, r, q⟩ := H
    simp only at hr1 hok hlen ⊢
    cases q with
    | false =>
      refine Run.cond rfl (fun _ => ?_) (fun h => absurd h (by decide))
      apply vc_run 1000 (stop := false) rfl; simp only [push_cast, reduceIte, Nat.reduceEqDiff, Nat.reduceAdd, Nat.reduceSub, Nat.reduceLT, Int.reduceNeg, Int.reduceLE, Int.reduceLT, Int.reduceToNat, Nat.reduceLeDiff, UInt8.reduceOfNat, UInt8.reduceOfNatLT, and_self, Nat.reduceMul, decide_true, decide_false, Bool.not_true, Bool.not_false, implies_true]
      rw [hr1 rfl]
    | true =>
      rw [hr0 rfl]
      obtain ⟨a1, _⟩ := hok rfl
      refine Run.cond rfl (fun h => absurd h (by decide)) (fun _ => ?_)
      obtain ⟨w0, w1, rfl⟩ : ∃ w0 w1, w = [w0, w1] := by
        match w, a1 with
        | [w0, w1], _ => exact ⟨w0, w1, rfl⟩
      simp only [sumL, List.map_cons, List.map_nil, List.sum_cons, List.sum_nil] at hlen
      have hpl := rpS_len w1
      apply vc_run 1000 (stop := true) rfl; simp only [push_cast, reduceIte, Nat.reduceEqDiff, Nat.reduceAdd, Nat.reduceSub, Nat.reduceLT, Int.reduceNeg, Int.reduceLE, Int.reduceLT, Int.reduceToNat, Nat.reduceLeDiff, UInt8.reduceOfNat, UInt8.reduceOfNatLT, and_self, Nat.reduceMul, decide_true, decide_false, Bool.not_true, Bool.not_false, implies_true]
      repeat (refine And.intro (by first | decide | (show w1.length ≤ _; omega)) ?_)
      repeat ((first | refine Run.cond rfl (fun h => absurd h (by decide)) (fun _ => ?_) | refine Run.cond rfl (fun _ => ?_) (fun h => absurd h (by decide))); apply vc_run 1000 (stop := true) rfl; simp only [push_cast, reduceIte, Nat.reduceEqDiff, Nat.reduceAdd, Nat.reduceSub, Nat.reduceLT, Int.reduceNeg, Int.reduceLE, Int.reduceLT, Int.reduceToNat, Nat.reduceLeDiff, UInt8.reduceOfNat, UInt8.reduceOfNatLT, and_self, Nat.reduceMul, decide_true, decide_false, Bool.not_true, Bool.not_false, implies_true]; (repeat (refine And.intro (by first | decide | (show w2.length ≤ _; omega)) ?_)))
      have g1 : gd [w0, w1] [] 1 = w1 := rfl
      have eK : rcK 7 [w0, w1] r = ⟨7, numV w1, 0, [], [], r⟩ := rfl
      have eB : rcB 7 [w0, w1] = true := rfl
      rw [eK, eB]
      simp only [g1]
      refine ⟨fun _ => by simp only [szKall, List.length_nil]; omega, ?_⟩
      cases numOK w1 <;> cases (true) <;> rfl
  · refine Run.cond rfl (fun h => absurd h (by decide)) (fun _ => ?_)
    apply vc_run 1000 (stop := true) rfl; simp only [push_cast, reduceIte, Nat.reduceEqDiff, Nat.reduceAdd, Nat.reduceSub, Nat.reduceLT, Int.reduceNeg, Int.reduceLE, Int.reduceLT, Int.reduceToNat, Nat.reduceLeDiff, UInt8.reduceOfNat, UInt8.reduceOfNatLT, and_self, Nat.reduceMul, decide_true, decide_false, Bool.not_true, Bool.not_false, implies_true]
    have en : gd partN 0 (8 - 1) = 3 := rfl
    have eb : hasText 8 = false := rfl
    rw [en, eb]
    simp only [Int.reduceToNat]
    refine ⟨⟨by omega, by omega, by omega⟩, ?_⟩
    have hr0 : ∀ {w : List Str} {r : Str}, headS 3 false t = (w, r, true) → rcS t = (rcK 8 w r, rcB 8 w && numOK (w.getD 1 []) && callOK (rcK 8 w r)) := fun {w r} e => rcS_of h (by decide) (by rw [en]) (by rw [eb]; exact e)
    have hr1 : (headS 3 false t).2.2 = false → rcS t = (⟨8, 0, 0, [], [], []⟩, false) := fun e => by rw [rcS, h, if_neg (by decide), en, eb]; exact if_pos e
    have hok := headS_ok 3 false t
    have hlen := headS_len 3 false t
    generalize headS 3 false t = H at *
    obtain ⟨w, r, q⟩ := H
    simp only at hr1 hok hlen ⊢
    cases q with
    | false =>
      refine Run.cond rfl (fun _ => ?_) (fun h => absurd h (by decide))
      apply vc_run 1000 (stop := false) rfl; simp only [push_cast, reduceIte, Nat.reduceEqDiff, Nat.reduceAdd, Nat.reduceSub, Nat.reduceLT, Int.reduceNeg, Int.reduceLE, Int.reduceLT, Int.reduceToNat, Nat.reduceLeDiff, UInt8.reduceOfNat, UInt8.reduceOfNatLT, and_self, Nat.reduceMul, decide_true, decide_false, Bool.not_true, Bool.not_false, implies_true]
      rw [hr1 rfl]
    | true =>
      rw [hr0 rfl]
      obtain ⟨a1, _⟩ := hok rfl
      refine Run.cond rfl (fun h => absurd h (by decide)) (fun _ => ?_)
      obtain ⟨w0, w1, w2, rfl⟩ : ∃ w0 w1 w2, w = [w0, w1, w2] := by
        match w, a1 with
        | [w0, w1, w2], _ => exact ⟨w0, w1, w2, rfl⟩
      simp only [sumL, List.map_cons, List.map_nil, List.sum_cons, List.sum_nil] at hlen
      have hpl := rpS_len w2
      apply vc_run 1000 (stop := true) rfl; simp only [push_cast, reduceIte, Nat.reduceEqDiff, Nat.reduceAdd, Nat.reduceSub, Nat.reduceLT, Int.reduceNeg, Int.reduceLE, Int.reduceLT, Int.reduceToNat, Nat.reduceLeDiff, UInt8.reduceOfNat, UInt8.reduceOfNatLT, and_self, Nat.reduceMul, decide_true, decide_false, Bool.not_true, Bool.not_false, implies_true]
      repeat (refine And.intro (by first | decide | (show w1.length ≤ _; omega)) ?_)
      repeat ((first | refine Run.cond rfl (fun h => absurd h (by decide)) (fun _ => ?_) | refine Run.cond rfl (fun _ => ?_) (fun h => absurd h (by decide))); apply vc_run 1000 (stop := true) rfl; simp only [push_cast, reduceIte, Nat.reduceEqDiff, Nat.reduceAdd, Nat.reduceSub, Nat.reduceLT, Int.reduceNeg, Int.reduceLE, Int.reduceLT, Int.reduceToNat, Nat.reduceLeDiff, UInt8.reduceOfNat, UInt8.reduceOfNatLT, and_self, Nat.reduceMul, decide_true, decide_false, Bool.not_true, Bool.not_false, implies_true]; (repeat (refine And.intro (by first | decide | (show w2.length ≤ _; omega)) ?_)))
      have g1 : gd [w0, w1, w2] [] 1 = w1 := rfl
      have g2 : gd [w0, w1, w2] [] 2 = w2 := rfl
      have eK : rcK 8 [w0, w1, w2] r = ⟨8, numV w1, numV w2, [], [], r⟩ := rfl
      have eB : rcB 8 [w0, w1, w2] = numOK w2 := rfl
      rw [eK, eB]
      simp only [g1, g2]
      refine ⟨fun _ => by simp only [szKall, List.length_nil]; omega, ?_⟩
      cases numOK w1 <;> cases (numOK w2) <;> rfl
  · refine Run.cond rfl (fun h => absurd h (by decide)) (fun _ => ?_)
    apply vc_run 1000 (stop := true) rfl; simp only [push_cast, reduceIte, Nat.reduceEqDiff, Nat.reduceAdd, Nat.reduceSub, Nat.reduceLT, Int.reduceNeg, Int.reduceLE, Int.reduceLT, Int.reduceToNat, Nat.reduceLeDiff, UInt8.reduceOfNat, UInt8.reduceOfNatLT, and_self, Nat.reduceMul, decide_true, decide_false, Bool.not_true, Bool.not_false, implies_true]
    have en : gd partN 0 (9 - 1) = 2 := rfl
    have eb : hasText 9 = false := rfl
    rw [en, eb]
    simp only [Int.reduceToNat]
    refine ⟨⟨by omega, by omega, by omega⟩, ?_⟩
    have hr0 : ∀ {w : List Str} {r : Str}, headS 2 false t = (w, r, true) → rcS t = (rcK 9 w r, rcB 9 w && numOK (w.getD 1 []) && callOK (rcK 9 w r)) := fun {w r} e => rcS_of h (by decide) (by rw [en]) (by rw [eb]; exact e)
    have hr1 : (headS 2 false t).2.2 = false → rcS t = (⟨9, 0, 0, [], [], []⟩, false) := fun e => by rw [rcS, h, if_neg (by decide), en, eb]; exact if_pos e
    have hok := headS_ok 2 false t
    have hlen := headS_len 2 false t
    generalize headS 2 false t = H at *
    obtain ⟨w, r, q⟩ := H
    simp only at hr1 hok hlen ⊢
    cases q with
    | false =>
      refine Run.cond rfl (fun _ => ?_) (fun h => absurd h (by decide))
      apply vc_run 1000 (stop := false) rfl; simp only [push_cast, reduceIte, Nat.reduceEqDiff, Nat.reduceAdd, Nat.reduceSub, Nat.reduceLT, Int.reduceNeg, Int.reduceLE, Int.reduceLT, Int.reduceToNat, Nat.reduceLeDiff, UInt8.reduceOfNat, UInt8.reduceOfNatLT, and_self, Nat.reduceMul, decide_true, decide_false, Bool.not_true, Bool.not_false, implies_true]
      rw [hr1 rfl]
    | true =>
      rw [hr0 rfl]
      obtain ⟨a1, _⟩ := hok rfl
      refine Run.cond rfl (fun h => absurd h (by decide)) (fun _ => ?_)
      obtain ⟨w0, w1, rfl⟩ : ∃ w0 w1, w = [w0, w1] := by
        match w, a1 with
        | [w0, w1], _ => exact ⟨w0, w1, rfl⟩
      simp only [sumL, List.map_cons, List.map_nil, List.sum_cons, List.sum_nil] at hlen
      have hpl := rpS_len w1
      apply vc_run 1000 (stop := true) rfl; simp only [push_cast, reduceIte, Nat.reduceEqDiff, Nat.reduceAdd, Nat.reduceSub, Nat.reduceLT, Int.reduceNeg, Int.reduceLE, Int.reduceLT, Int.reduceToNat, Nat.reduceLeDiff, UInt8.reduceOfNat, UInt8.reduceOfNatLT, and_self, Nat.reduceMul, decide_true, decide_false, Bool.not_true, Bool.not_false, implies_true]
      repeat (refine And.intro (by first | decide | (show w1.length ≤ _; omega)) ?_)
      repeat ((first | refine Run.cond rfl (fun h => absurd h (by decide)) (fun _ => ?_) | refine Run.cond rfl (fun _ => ?_) (fun h => absurd h (by decide))); apply vc_run 1000 (stop := true) rfl; simp only [push_cast, reduceIte, Nat.reduceEqDiff, Nat.reduceAdd, Nat.reduceSub, Nat.reduceLT, Int.reduceNeg, Int.reduceLE, Int.reduceLT, Int.reduceToNat, Nat.reduceLeDiff, UInt8.reduceOfNat, UInt8.reduceOfNatLT, and_self, Nat.reduceMul, decide_true, decide_false, Bool.not_true, Bool.not_false, implies_true]; (repeat (refine And.intro (by first | decide | (show w2.length ≤ _; omega)) ?_)))
      have g1 : gd [w0, w1] [] 1 = w1 := rfl
      have eK : rcK 9 [w0, w1] r = ⟨9, numV w1, 0, [], [], r⟩ := rfl
      have eB : rcB 9 [w0, w1] = true := rfl
      rw [eK, eB]
      simp only [g1]
      refine ⟨fun _ => by simp only [szKall, List.length_nil]; omega, ?_⟩
      cases numOK w1 <;> cases (true) <;> rfl)
def ReadCall (t : Str) : Kall × Int := if 65536 < t.length then (kall0, 2) else if (rcI t).2 then ((rcI t).1, 0) else (kall0, 3)
noncomputable def sp_ReadCall : Spec := ⟨[.sc], [.rd], false, fun
  | [.str t] => some (some (t.length ≤ 1048576), .tup [.agg [.int .i64 (ReadCall t).1.kind, .int .i64 (ReadCall t).1.doc, .int .i64 (ReadCall t).1.config, .own true ⟨.int, (ReadCall t).1.path⟩, .str (ReadCall t).1.name, .str (ReadCall t).1.text], .int .i64 (ReadCall t).2], [])
  | _ => none⟩
@[push_cast] theorem sp_ReadCall_ps : sp_ReadCall.ps = [.sc] := rfl
@[push_cast] theorem sp_ReadCall_md : sp_ReadCall.modes = [.rd] := rfl
@[push_cast] theorem sp_ReadCall_pure : sp_ReadCall.pure = false := rfl
@[push_cast] theorem sp_ReadCall_run (t : Str) : sp_ReadCall.run [.str t] = some (some (t.length ≤ 1048576), .tup [.agg [.int .i64 (ReadCall t).1.kind, .int .i64 (ReadCall t).1.doc, .int .i64 (ReadCall t).1.config, .own true ⟨.int, (ReadCall t).1.path⟩, .str (ReadCall t).1.name, .str (ReadCall t).1.text], .int .i64 (ReadCall t).2], []) := rfl
theorem rcI_okR {t : Str} (hs : ¬ 65536 < t.length) (h : (rcI t).2 = true) : ReadCall t = ((rcI t).1, 0) := by rw [ReadCall, if_neg hs, if_pos h]
theorem rcI_badR {t : Str} (hs : ¬ 65536 < t.length) (h : (rcI t).2 = false) : ReadCall t = (kall0, 3) := by rw [ReadCall, if_neg hs, if_neg (by rw [h]; simp)]
noncomputable def e_ReadCall : Env := mk [(25, sp_isLong), (35, sp_readCall)] [] [(2000000, [.nib .int 2 3])] [] none
@[push_cast] theorem e_ReadCall_in : e_ReadCall.inl = inlF [] := rfl
@[push_cast] theorem e_ReadCall_fn : e_ReadCall.fnd = fndF none := rfl
@[push_cast] theorem e_ReadCall_gh : e_ReadCall.gh = ghOf [(2000000, [.nib .int 2 3])] := rfl
@[push_cast] theorem e_ReadCall_dr : e_ReadCall.dr = drOf [] := rfl
@[push_cast] theorem e_ReadCall_td : e_ReadCall.td = td := rfl
@[push_cast] theorem e_ReadCall_eqt : e_ReadCall.eqt = eqt := rfl
@[push_cast] theorem e_ReadCall_cal : e_ReadCall.cal = calOf [(25, sp_isLong), (35, sp_readCall)] := rfl
theorem c_ReadCall : CRow P0 ety0 15 sp_ReadCall := CRow.of (E := e_ReadCall) (mkOk (.cons c_isLong (.cons c_readCall (.nil)))) func15 rfl rfl rfl (by
  intro args p r outs h hq
  simp only [sp_ReadCall] at h; split at h <;> cases h
  rename_i t
  have hs := hq _ rfl
  refine Body.intro (rs := [.cell 2 32, .tmp 3]) rfl rfl rfl ?_
  apply vc_run 1000 (stop := false) rfl; simp only [push_cast, reduceIte, Nat.reduceEqDiff, Nat.reduceAdd, Nat.reduceSub, Nat.reduceLT, Int.reduceNeg, Int.reduceLE, Int.reduceLT, Int.reduceToNat, Nat.reduceLeDiff, UInt8.reduceOfNat, UInt8.reduceOfNatLT, and_self, Nat.reduceMul, decide_true, decide_false, Bool.not_true, Bool.not_false, implies_true]
  rw [isLong_one]
  refine ⟨fun h => ?_, fun h => ?_⟩
  · rw [ReadCall, if_pos (of_decide_eq_true h)]; simp [kall0]
  have h0 : ¬ 65536 < t.length := of_decide_eq_false h
  refine ⟨by omega, fun h => ?_, fun h => ?_⟩
  · rw [rcI_badR h0 (by simpa using h)]; simp [kall0]
  · rw [rcI_okR h0 (by simpa using h)])
noncomputable def e_ReadCall2 : Env := mk [(34, sp_l12ReadCall)] [] [(2000000, [.nib .int 2 3])] [] none
@[push_cast] theorem e_ReadCall2_in : e_ReadCall2.inl = inlF [] := rfl
@[push_cast] theorem e_ReadCall2_fn : e_ReadCall2.fnd = fndF none := rfl
@[push_cast] theorem e_ReadCall2_gh : e_ReadCall2.gh = ghOf [(2000000, [.nib .int 2 3])] := rfl
@[push_cast] theorem e_ReadCall2_dr : e_ReadCall2.dr = drOf [] := rfl
@[push_cast] theorem e_ReadCall2_td : e_ReadCall2.td = td := rfl
@[push_cast] theorem e_ReadCall2_eqt : e_ReadCall2.eqt = eqt := rfl
@[push_cast] theorem e_ReadCall2_cal : e_ReadCall2.cal = calOf [(34, sp_l12ReadCall)] := rfl
theorem c_ReadCall2 : CRow P0 ety0 14 sp_ReadCall := CRow.of (E := e_ReadCall2) (mkOk (.cons c_l12ReadCall (.nil))) func14 rfl rfl rfl (by
  intro args p r outs h hq
  simp only [sp_ReadCall] at h; split at h <;> cases h
  rename_i t
  have hs := hq _ rfl
  refine Body.intro (rs := [.cell 2 32, .tmp 3]) rfl rfl rfl ?_
  apply vc_run 1000 (stop := false) rfl; simp only [push_cast, reduceIte, Nat.reduceEqDiff, Nat.reduceAdd, Nat.reduceSub, Nat.reduceLT, Int.reduceNeg, Int.reduceLE, Int.reduceLT, Int.reduceToNat, Nat.reduceLeDiff, UInt8.reduceOfNat, UInt8.reduceOfNatLT, and_self, Nat.reduceMul, decide_true, decide_false, Bool.not_true, Bool.not_false, implies_true]
  obtain ⟨e1, e2⟩ := rc_eq t
  refine ⟨fun h => ?_, fun h => ?_⟩
  · rw [ReadCall, if_pos (by have := of_decide_eq_true h; omega)]; simp [kall0]
  have h0 : ¬ 65536 < t.length := by have := of_decide_eq_false h; omega
  refine ⟨by omega, fun h => ?_, fun h => ?_⟩
  · rw [rcI_badR h0 (by rw [e1]; simpa using h)]; simp [kall0]
  · have h1 : (rcI t).2 = true := by rw [e1]; simpa using h
    rw [rcI_okR h0 h1, e2 h1])
noncomputable def sp_mkCall : Spec := ⟨[.st .call, .sc], [.io, .rd], false, fun
  | [.agg [.int .i64 k, .int .i64 d, .int .i64 g, .own true ⟨.int, p⟩, .str m, .str t], .int .i64 n] => some (some (0 ≤ n ∧ n + sumL oneI p ≤ 1073741824), .int .i64 (n + sumL oneI p), [.agg [.int .i64 k, .int .i64 d, .int .i64 g, .own true ⟨.int, mkL mkIn oneI p n⟩, .str m, .str t]])
  | _ => none⟩
@[push_cast] theorem sp_mkCall_ps : sp_mkCall.ps = [.st .call, .sc] := rfl
@[push_cast] theorem sp_mkCall_md : sp_mkCall.modes = [.io, .rd] := rfl
@[push_cast] theorem sp_mkCall_pure : sp_mkCall.pure = false := rfl
@[push_cast] theorem sp_mkCall_run (k d g : Int) (p : List Int) (m t : Str) (n : Int) : sp_mkCall.run [.agg [.int .i64 k, .int .i64 d, .int .i64 g, .own true ⟨.int, p⟩, .str m, .str t], .int .i64 n] = some (some (0 ≤ n ∧ n + sumL oneI p ≤ 1073741824), .int .i64 (n + sumL oneI p), [.agg [.int .i64 k, .int .i64 d, .int .i64 g, .own true ⟨.int, mkL mkIn oneI p n⟩, .str m, .str t]]) := rfl
noncomputable def e_mkCall : Env := mk [(37, sp_mkInts)] [] [] [] none
@[push_cast] theorem e_mkCall_in : e_mkCall.inl = inlF [] := rfl
@[push_cast] theorem e_mkCall_fn : e_mkCall.fnd = fndF none := rfl
@[push_cast] theorem e_mkCall_gh : e_mkCall.gh = ghOf [] := rfl
@[push_cast] theorem e_mkCall_dr : e_mkCall.dr = drOf [] := rfl
@[push_cast] theorem e_mkCall_td : e_mkCall.td = td := rfl
@[push_cast] theorem e_mkCall_eqt : e_mkCall.eqt = eqt := rfl
@[push_cast] theorem e_mkCall_cal : e_mkCall.cal = calOf [(37, sp_mkInts)] := rfl
theorem c_mkCall : CRow P0 ety0 17 sp_mkCall := CRow.of (E := e_mkCall) (mkOk (.cons c_mkInts (.nil))) func17 rfl rfl rfl (by
  intro args p r outs h hq
  simp only [sp_mkCall] at h; split at h <;> cases h
  rename_i k d g p m t n
  have hz := hq _ rfl
  refine Body.intro (rs := [.tmp 4]) rfl rfl rfl ?_
  apply vc_run 1000 (stop := false) rfl; simp only [push_cast, reduceIte, Nat.reduceEqDiff, Nat.reduceAdd, Nat.reduceSub, Nat.reduceLT, Int.reduceNeg, Int.reduceLE, Int.reduceLT, Int.reduceToNat, Nat.reduceLeDiff, UInt8.reduceOfNat, UInt8.reduceOfNatLT, and_self, Nat.reduceMul, decide_true, decide_false, Bool.not_true, Bool.not_false, implies_true]
  exact hz)
noncomputable def sp_hdCall : Spec := ⟨[.st .call, .sc], [.rd, .rd], true, fun
  | [.agg [.int .i64 k, .int .i64 d, .int .i64 g, .dat ⟨.int, p⟩, .str m, .str t], .int .i64 n] => some (some (0 ≤ n ∧ n + sumL oneI p ≤ 1073741824 ∧ Mkd mkIn oneI p n), .int .i64 (n + sumL oneI p), [])
  | _ => none⟩
@[push_cast] theorem sp_hdCall_ps : sp_hdCall.ps = [.st .call, .sc] := rfl
@[push_cast] theorem sp_hdCall_md : sp_hdCall.modes = [.rd, .rd] := rfl
@[push_cast] theorem sp_hdCall_pure : sp_hdCall.pure = true := rfl
@[push_cast] theorem sp_hdCall_run (k d g : Int) (p : List Int) (m t : Str) (n : Int) : sp_hdCall.run [.agg [.int .i64 k, .int .i64 d, .int .i64 g, .dat ⟨.int, p⟩, .str m, .str t], .int .i64 n] = some (some (0 ≤ n ∧ n + sumL oneI p ≤ 1073741824 ∧ Mkd mkIn oneI p n), .int .i64 (n + sumL oneI p), []) := rfl
noncomputable def e_hdCall : Env := mk [(38, sp_hdInts)] [] [] [] none
@[push_cast] theorem e_hdCall_in : e_hdCall.inl = inlF [] := rfl
@[push_cast] theorem e_hdCall_fn : e_hdCall.fnd = fndF none := rfl
@[push_cast] theorem e_hdCall_gh : e_hdCall.gh = ghOf [] := rfl
@[push_cast] theorem e_hdCall_dr : e_hdCall.dr = drOf [] := rfl
@[push_cast] theorem e_hdCall_td : e_hdCall.td = td := rfl
@[push_cast] theorem e_hdCall_eqt : e_hdCall.eqt = eqt := rfl
@[push_cast] theorem e_hdCall_cal : e_hdCall.cal = calOf [(38, sp_hdInts)] := rfl
theorem c_hdCall : CRow P0 ety0 18 sp_hdCall := CRow.of (E := e_hdCall) (mkOk (.cons c_hdInts (.nil))) func18 rfl rfl rfl (by
  intro args p r outs h hq
  simp only [sp_hdCall] at h; split at h <;> cases h
  rename_i k d g p m t n
  have hz := hq _ rfl
  refine Body.intro (rs := [.tmp 4]) rfl rfl rfl ?_
  apply vc_run 1000 (stop := false) rfl; simp only [push_cast, reduceIte, Nat.reduceEqDiff, Nat.reduceAdd, Nat.reduceSub, Nat.reduceLT, Int.reduceNeg, Int.reduceLE, Int.reduceLT, Int.reduceToNat, Nat.reduceLeDiff, UInt8.reduceOfNat, UInt8.reduceOfNatLT, and_self, Nat.reduceMul, decide_true, decide_false, Bool.not_true, Bool.not_false, implies_true]
  obtain ⟨h0, h1, h2⟩ := hz
  refine ⟨⟨h0, h1, h2⟩, fun h => ?_⟩
  have := of_decide_eq_true h
  omega)
theorem ReadCall_len (t : Str) : (ReadCall t).1.path.length ≤ 10 := by
  unfold ReadCall
  by_cases h : 65536 < t.length
  · rw [if_pos h]; simp [kall0]
  rw [if_neg h]
  cases h2 : (rcI t).2 with
  | false => simp [kall0]
  | true =>
    simp only [if_true]
    unfold rcI at h2 ⊢
    split at h2
    · cases h2
    rename_i h3
    rw [if_neg h3]
    split at h2
    · rename_i h4
      rw [if_pos h4]
      obtain ⟨_, _, _, _, _, fp, _⟩ := call_facts (k := (rcC t (kindI t)).kind) (d := (rcC t (kindI t)).doc) (g := (rcC t (kindI t)).config) (p := (rcC t (kindI t)).path) (m := (rcC t (kindI t)).name) (t := (rcC t (kindI t)).text) h4.1
      exact (isPath_in fp).1
    · cases h2
noncomputable def sp_lawReadCall : Spec := ⟨[.sc], [.rd], true, fun
  | [.str t] => some (some (t.length ≤ 9223372036854775807), .bool true, [])
  | _ => none⟩
@[push_cast] theorem sp_lawReadCall_ps : sp_lawReadCall.ps = [.sc] := rfl
@[push_cast] theorem sp_lawReadCall_md : sp_lawReadCall.modes = [.rd] := rfl
@[push_cast] theorem sp_lawReadCall_pure : sp_lawReadCall.pure = true := rfl
@[push_cast] theorem sp_lawReadCall_run (t : Str) : sp_lawReadCall.run [.str t] = some (some (t.length ≤ 9223372036854775807), .bool true, []) := rfl
noncomputable def e_lawReadCall : Env := mk [(16, sp_eqCall), (17, sp_mkCall), (18, sp_hdCall), (15, sp_ReadCall), (14, sp_ReadCall)] [] [] [] none
@[push_cast] theorem e_lawReadCall_in : e_lawReadCall.inl = inlF [] := rfl
@[push_cast] theorem e_lawReadCall_fn : e_lawReadCall.fnd = fndF none := rfl
@[push_cast] theorem e_lawReadCall_gh : e_lawReadCall.gh = ghOf [] := rfl
@[push_cast] theorem e_lawReadCall_dr : e_lawReadCall.dr = drOf [] := rfl
@[push_cast] theorem e_lawReadCall_td : e_lawReadCall.td = td := rfl
@[push_cast] theorem e_lawReadCall_eqt : e_lawReadCall.eqt = eqt := rfl
@[push_cast] theorem e_lawReadCall_cal : e_lawReadCall.cal = calOf [(16, sp_eqCall), (17, sp_mkCall), (18, sp_hdCall), (15, sp_ReadCall), (14, sp_ReadCall)] := rfl
theorem c_lawReadCall : CRow P0 ety0 5 sp_lawReadCall := CRow.of (E := e_lawReadCall) (mkOk (.cons c_eqCall (.cons c_mkCall (.cons c_hdCall (.cons c_ReadCall (.cons c_ReadCall2 (.nil))))))) func5 rfl rfl rfl (by
  intro args p r outs h hq
  simp only [sp_lawReadCall] at h; split at h <;> cases h
  rename_i t
  have hs := hq _ rfl
  refine Body.intro (rs := [.tmp 2]) rfl rfl rfl ?_
  apply vc_run 1000 (stop := false) rfl; simp only [push_cast, reduceIte, Nat.reduceEqDiff, Nat.reduceAdd, Nat.reduceSub, Nat.reduceLT, Int.reduceNeg, Int.reduceLE, Int.reduceLT, Int.reduceToNat, Nat.reduceLeDiff, UInt8.reduceOfNat, UInt8.reduceOfNatLT, and_self, Nat.reduceMul, decide_true, decide_false, Bool.not_true, Bool.not_false, implies_true]
  intro h
  have k1 : t.length ≤ 1048576 := by have := of_decide_eq_false h; omega
  have k2 := ReadCall_len t
  generalize (ReadCall t).1 = R at *
  have k3 : R.path.length ≤ 1048576 := by omega
  have k4 := sumI_len R.path
  have n3 : Mkd mkIn oneI (mkL mkIn oneI R.path 1) 1 := (mkL_idem mkIn oneI (fun _ _ => rfl) (fun _ _ => rfl) R.path 1).symm
  have n4 : sumL oneI (mkL mkIn oneI R.path 1) = sumL oneI R.path := mkL_sum mkIn oneI (fun _ _ => rfl) R.path 1
  have n1 : decide ((1 : Int) + (sumL oneI R.path : Nat) < 0) = false := decide_eq_false (by omega)
  have n5 : (1 : Int) + (sumL oneI R.path : Nat) ≤ 1073741824 := by omega
  simp only [n4, n1, n3, n5, k1, k3, eqB_self, Bool.not_true, cond_true, cond_false, decide_true, forall_const, reduceCtorEq, false_implies, implies_true, and_self, and_true, true_and])
end Go.Ab
