/- Configurations, documents, houses are marked. -/
import Derived.Test.YtondigjbmieekaaFnMn
import Derived.Test.YtondigjbmieekaaFnE
set_option linter.all false
set_option linter.unusedSimpArgs false
set_option linter.unusedVariables false
set_option linter.unusedSectionVars false
set_option maxRecDepth 20000
set_option maxHeartbeats 1000000
namespace Go.Ab
open Go Go.Proofs.Try
def t3 (k : Int) : Bool := decide (k % 3 = 0)
def mkCs (c : Cfg) (k : Int) : Cfg := ⟨t3 k, t3 (k + 1), mkL mkRu cRu c.allow (k + 2), mkL mkRu cRu c.remove (k + 2 + sumL cRu c.allow), mkL mkRu cRu c.unwrap (k + 2 + sumL cRu c.allow + sumL cRu c.remove), mkL mkSt one1 c.attrs (k + 2 + sumL cRu c.allow + sumL cRu c.remove + sumL cRu c.unwrap), mkL mkSt one1 c.drop (k + 2 + sumL cRu c.allow + sumL cRu c.remove + sumL cRu c.unwrap + sumL one1 c.attrs),
  t3 (k + 2 + sumL cRu c.allow + sumL cRu c.remove + sumL cRu c.unwrap + sumL one1 c.attrs + sumL one1 c.drop), t3 (k + 2 + sumL cRu c.allow + sumL cRu c.remove + sumL cRu c.unwrap + sumL one1 c.attrs + sumL one1 c.drop + 1)⟩
def cCs (c : Cfg) : Nat := 4 + sumL cRu c.allow + sumL cRu c.remove + sumL cRu c.unwrap + sumL one1 c.attrs + sumL one1 c.drop
noncomputable def sp_mkCfgs : Spec := ⟨[.sl .cfg, .sc], [.io, .rd], false, fun
  | [.own true ⟨.cfg, l⟩, .int .i64 k] => some (some (0 ≤ k ∧ k + sumL cCs l ≤ 1073741824), .int .i64 (k + sumL cCs l), [.own true ⟨.cfg, mkL mkCs cCs l k⟩])
  | _ => none⟩
@[push_cast] theorem sp_mkCfgs_ps : sp_mkCfgs.ps = [.sl .cfg, .sc] := rfl
@[push_cast] theorem sp_mkCfgs_md : sp_mkCfgs.modes = [.io, .rd] := rfl
@[push_cast] theorem sp_mkCfgs_pure : sp_mkCfgs.pure = false := rfl
@[push_cast] theorem sp_mkCfgs_run (l : List Cfg) (k : Int) : sp_mkCfgs.run [.own true ⟨.cfg, l⟩, .int .i64 k] = some (some (0 ≤ k ∧ k + sumL cCs l ≤ 1073741824), .int .i64 (k + sumL cCs l), [.own true ⟨.cfg, mkL mkCs cCs l k⟩]) := rfl
noncomputable def e_mkCfgs : Env := mk [(50, sp_mkRus), (24, sp_mkStrs)] [] []
@[push_cast] theorem e_mkCfgs_gh : e_mkCfgs.gh = ghOf [] := rfl
@[push_cast] theorem e_mkCfgs_dr : e_mkCfgs.dr = drOf [] := rfl
@[push_cast] theorem e_mkCfgs_td : e_mkCfgs.td = td := rfl
@[push_cast] theorem e_mkCfgs_eqt : e_mkCfgs.eqt = eqt := rfl
@[push_cast] theorem e_mkCfgs_cal : e_mkCfgs.cal = calOf [(50, sp_mkRus), (24, sp_mkStrs)] := rfl
theorem c_mkCfgs : CRow P0 ety0 14 sp_mkCfgs := CRow.of (E := e_mkCfgs) (mkOk (.cons c_mkRus (.cons c_mkStrs (.nil)))) func14 rfl rfl rfl (by
  intro args p r outs h hq
  simp only [sp_mkCfgs] at h; split at h <;> cases h
  rename_i l k
  obtain ⟨h0, h1⟩ := hq _ rfl
  have hl := len_sum cCs (fun x => by simp only [cCs]; omega) l
  refine Body.intro (rs := [.tmp 4]) rfl rfl rfl ?_
  apply vc_run 1000 (stop := false) rfl; simp only [push_cast, reduceIte, Nat.reduceEqDiff, Nat.reduceAdd, Nat.reduceSub, Nat.reduceLT, Int.reduceNeg, Int.reduceLE, Int.reduceLT, Int.reduceToNat, Nat.reduceLeDiff, UInt8.reduceOfNat, UInt8.reduceOfNatLT, and_self, Nat.reduceMul, decide_true, decide_false, Bool.not_true, Bool.not_false, implies_true]
  refine Run.loop [1, 5] [0] [1000000] rfl (fun n vs bs => ∃ j : Nat, vs = [.int .i64 (k + sumL cCs (l.take j)), .int .i64 j] ∧ bs = [[.own true ⟨.cfg, mkP mkCs cCs l k j⟩]] ∧ j ≤ l.length ∧ n = l.length - j) l.length ?_ ?_
  · simp only [push_cast, reduceIte, Nat.reduceEqDiff, Nat.reduceAdd, Nat.reduceSub, Nat.reduceLT, Int.reduceNeg, Int.reduceLE, Int.reduceLT, Int.reduceToNat, Nat.reduceLeDiff, UInt8.reduceOfNat, UInt8.reduceOfNatLT, and_self, Nat.reduceMul, decide_true, decide_false, Bool.not_true, Bool.not_false, implies_true]
    exact ⟨0, by simp [sumL], by rw [mkP_0], by omega, by omega⟩
  rintro n vs bs ⟨j, rfl, rfl, hj, rfl⟩
  simp only [push_cast, reduceIte, Nat.reduceEqDiff, Nat.reduceAdd, Nat.reduceSub, Nat.reduceLT, Int.reduceNeg, Int.reduceLE, Int.reduceLT, Int.reduceToNat, Nat.reduceLeDiff, UInt8.reduceOfNat, UInt8.reduceOfNatLT, and_self, Nat.reduceMul, decide_true, decide_false, Bool.not_true, Bool.not_false, implies_true]
  apply vc_run 1000 (stop := false) rfl; simp only [push_cast, reduceIte, Nat.reduceEqDiff, Nat.reduceAdd, Nat.reduceSub, Nat.reduceLT, Int.reduceNeg, Int.reduceLE, Int.reduceLT, Int.reduceToNat, Nat.reduceLeDiff, UInt8.reduceOfNat, UInt8.reduceOfNatLT, and_self, Nat.reduceMul, decide_true, decide_false, Bool.not_true, Bool.not_false, implies_true]
  rw [mkP_len]
  refine ⟨fun hlt => ?_, fun hge => ?_⟩
  · have hlt : j < l.length := Int.ofNat_lt.1 (of_decide_eq_true hlt)
    have hset := mkP_set mkCs cCs k cfgD hlt
    have hget := mkP_get mkCs cCs k cfgD hlt
    have hst := sumL_step cCs cfgD hlt
    have htl := sumL_take_le cCs l (j + 1)
    have hgs : ∀ y, ((mkP mkCs cCs l k j).set j y).getD j cfgD = y := fun y => by
      have : j < (mkP mkCs cCs l k j).length := by rw [mkP_len]; exact hlt
      simp [List.getD, this]
    simp only [gd_nat, hget, Int.toNat_natCast, List.length_set, mkP_len, List.set_set, hgs]
    have e1 : cCs (l.getD j cfgD) = 4 + sumL cRu (l.getD j cfgD).allow + sumL cRu (l.getD j cfgD).remove + sumL cRu (l.getD j cfgD).unwrap + sumL one1 (l.getD j cfgD).attrs + sumL one1 (l.getD j cfgD).drop := rfl
    have e2 : k + (sumL cCs (l.take j) : Int) + 1 + 1 = k + (sumL cCs (l.take j) : Int) + 2 := by omega
    rw [e2]
    repeat' apply And.intro
    all_goals first | omega | skip
    refine ⟨_, ?_, j + 1, ?_, ?_, by omega, rfl⟩
    · omega
    · rw [hst, e1]; congr 2; omega
    · rw [← hset]; rfl
  · have hge : j = l.length := by have := of_decide_eq_false hge; omega
    subst hge
    rw [List.take_length, mkP_all]
    exact ⟨rfl, rfl⟩)
noncomputable def sp_hdCfgs : Spec := ⟨[.sl .cfg, .sc], [.rd, .rd], true, fun
  | [.dat ⟨.cfg, l⟩, .int .i64 k] => some (some (0 ≤ k ∧ k + sumL cCs l ≤ 1073741824 ∧ Mkd mkCs cCs l k), .int .i64 (k + sumL cCs l), [])
  | _ => none⟩
@[push_cast] theorem sp_hdCfgs_ps : sp_hdCfgs.ps = [.sl .cfg, .sc] := rfl
@[push_cast] theorem sp_hdCfgs_md : sp_hdCfgs.modes = [.rd, .rd] := rfl
@[push_cast] theorem sp_hdCfgs_pure : sp_hdCfgs.pure = true := rfl
@[push_cast] theorem sp_hdCfgs_run (l : List Cfg) (k : Int) : sp_hdCfgs.run [.dat ⟨.cfg, l⟩, .int .i64 k] = some (some (0 ≤ k ∧ k + sumL cCs l ≤ 1073741824 ∧ Mkd mkCs cCs l k), .int .i64 (k + sumL cCs l), []) := rfl
noncomputable def e_hdCfgs : Env := mk [(98, sp_hdRus), (25, sp_hdStrs)] [] []
@[push_cast] theorem e_hdCfgs_gh : e_hdCfgs.gh = ghOf [] := rfl
@[push_cast] theorem e_hdCfgs_dr : e_hdCfgs.dr = drOf [] := rfl
@[push_cast] theorem e_hdCfgs_td : e_hdCfgs.td = td := rfl
@[push_cast] theorem e_hdCfgs_eqt : e_hdCfgs.eqt = eqt := rfl
@[push_cast] theorem e_hdCfgs_cal : e_hdCfgs.cal = calOf [(98, sp_hdRus), (25, sp_hdStrs)] := rfl
theorem c_hdCfgs : CRow P0 ety0 53 sp_hdCfgs := CRow.of (E := e_hdCfgs) (mkOk (.cons c_hdRus (.cons c_hdStrs (.nil)))) func53 rfl rfl rfl (by
  intro args p r outs h hq
  simp only [sp_hdCfgs] at h; split at h <;> cases h
  rename_i l k
  obtain ⟨h0, h1, hm⟩ := hq _ rfl
  have hl := len_sum cCs (fun x => by simp only [cCs]; omega) l
  refine Body.intro (rs := [.tmp 4]) rfl rfl rfl ?_
  apply vc_run 1000 (stop := false) rfl; simp only [push_cast, reduceIte, Nat.reduceEqDiff, Nat.reduceAdd, Nat.reduceSub, Nat.reduceLT, Int.reduceNeg, Int.reduceLE, Int.reduceLT, Int.reduceToNat, Nat.reduceLeDiff, UInt8.reduceOfNat, UInt8.reduceOfNatLT, and_self, Nat.reduceMul, decide_true, decide_false, Bool.not_true, Bool.not_false, implies_true]
  refine Run.loop [1, 5] [0] [] rfl (fun n vs bs => ∃ j : Nat, vs = [.int .i64 (k + sumL cCs (l.take j)), .int .i64 j] ∧ bs = [] ∧ j ≤ l.length ∧ n = l.length - j) l.length ?_ ?_
  · simp only [push_cast, reduceIte, Nat.reduceEqDiff, Nat.reduceAdd, Nat.reduceSub, Nat.reduceLT, Int.reduceNeg, Int.reduceLE, Int.reduceLT, Int.reduceToNat, Nat.reduceLeDiff, UInt8.reduceOfNat, UInt8.reduceOfNatLT, and_self, Nat.reduceMul, decide_true, decide_false, Bool.not_true, Bool.not_false, implies_true]
    exact ⟨0, by simp [sumL], by omega, by omega⟩
  rintro n vs bs ⟨j, rfl, rfl, hj, rfl⟩
  simp only [push_cast, reduceIte, Nat.reduceEqDiff, Nat.reduceAdd, Nat.reduceSub, Nat.reduceLT, Int.reduceNeg, Int.reduceLE, Int.reduceLT, Int.reduceToNat, Nat.reduceLeDiff, UInt8.reduceOfNat, UInt8.reduceOfNatLT, and_self, Nat.reduceMul, decide_true, decide_false, Bool.not_true, Bool.not_false, implies_true]
  apply vc_run 1000 (stop := false) rfl; simp only [push_cast, reduceIte, Nat.reduceEqDiff, Nat.reduceAdd, Nat.reduceSub, Nat.reduceLT, Int.reduceNeg, Int.reduceLE, Int.reduceLT, Int.reduceToNat, Nat.reduceLeDiff, UInt8.reduceOfNat, UInt8.reduceOfNatLT, and_self, Nat.reduceMul, decide_true, decide_false, Bool.not_true, Bool.not_false, implies_true]
  refine ⟨fun hlt => ?_, fun hge => ?_⟩
  · have hlt : j < l.length := Int.ofNat_lt.1 (of_decide_eq_true hlt)
    have hat := hm.at cfgD hlt
    have hst := sumL_step cCs cfgD hlt
    have htl := sumL_take_le cCs l (j + 1)
    simp only [gd_nat]
    have e1 : cCs (l.getD j cfgD) = 4 + sumL cRu (l.getD j cfgD).allow + sumL cRu (l.getD j cfgD).remove + sumL cRu (l.getD j cfgD).unwrap + sumL one1 (l.getD j cfgD).attrs + sumL one1 (l.getD j cfgD).drop := rfl
    have e2 : k + (sumL cCs (l.take j) : Int) + 1 + 1 = k + (sumL cCs (l.take j) : Int) + 2 := by omega
    rw [e2]
    generalize hK : k + (sumL cCs (l.take j) : Int) = K at *
    have f1 : (l.getD j cfgD).hasAllow = decide (K % 3 = 0) := congrArg Cfg.hasAllow hat
    have f2 : (l.getD j cfgD).hasAttrs = decide ((K + 1) % 3 = 0) := congrArg Cfg.hasAttrs hat
    have f3 : Mkd mkRu cRu (l.getD j cfgD).allow (K + 2) := congrArg Cfg.allow hat
    have f4 : Mkd mkRu cRu (l.getD j cfgD).remove (K + 2 + sumL cRu (l.getD j cfgD).allow) := congrArg Cfg.remove hat
    have f5 : Mkd mkRu cRu (l.getD j cfgD).unwrap (K + 2 + sumL cRu (l.getD j cfgD).allow + sumL cRu (l.getD j cfgD).remove) := congrArg Cfg.unwrap hat
    have f6 : Mkd mkSt one1 (l.getD j cfgD).attrs (K + 2 + sumL cRu (l.getD j cfgD).allow + sumL cRu (l.getD j cfgD).remove + sumL cRu (l.getD j cfgD).unwrap) := congrArg Cfg.attrs hat
    have f7 : Mkd mkSt one1 (l.getD j cfgD).drop (K + 2 + sumL cRu (l.getD j cfgD).allow + sumL cRu (l.getD j cfgD).remove + sumL cRu (l.getD j cfgD).unwrap + sumL one1 (l.getD j cfgD).attrs) := congrArg Cfg.drop hat
    have f8 : (l.getD j cfgD).comments = decide ((K + 2 + sumL cRu (l.getD j cfgD).allow + sumL cRu (l.getD j cfgD).remove + sumL cRu (l.getD j cfgD).unwrap + sumL one1 (l.getD j cfgD).attrs + sumL one1 (l.getD j cfgD).drop) % 3 = 0) := congrArg Cfg.comments hat
    have f9 : (l.getD j cfgD).data = decide ((K + 2 + sumL cRu (l.getD j cfgD).allow + sumL cRu (l.getD j cfgD).remove + sumL cRu (l.getD j cfgD).unwrap + sumL one1 (l.getD j cfgD).attrs + sumL one1 (l.getD j cfgD).drop + 1) % 3 = 0) := congrArg Cfg.data hat
    rw [f1, f2, f8, f9]
    clear hat hm hq f1 f2 f8 f9
    repeat' (first | apply And.intro | intro)
    all_goals first | omega | assumption | (exfalso; rename_i h; simp at h; done) | (exfalso; rename_i h; have := of_decide_eq_true h; omega) | skip
    refine ⟨_, ?_, j + 1, ?_, by omega, rfl⟩
    · omega
    · rw [hst, e1]; congr 2; omega
  · have hge : j = l.length := by have := of_decide_eq_false hge; omega
    subst hge
    rw [List.take_length])
def mkDo (d : Docu) (k : Int) : Docu := ⟨mkT k, mkL mkNd cNd d.kids (k + 1)⟩
def cDo (d : Docu) : Nat := 1 + sumL cNd d.kids
noncomputable def sp_mkDocs : Spec := ⟨[.sl .doc, .sc], [.io, .rd], false, fun
  | [.own true ⟨.doc, l⟩, .int .i64 k] => some (some (0 ≤ k ∧ k + sumL cDo l ≤ 1073741824), .int .i64 (k + sumL cDo l), [.own true ⟨.doc, mkL mkDo cDo l k⟩])
  | _ => none⟩
@[push_cast] theorem sp_mkDocs_ps : sp_mkDocs.ps = [.sl .doc, .sc] := rfl
@[push_cast] theorem sp_mkDocs_md : sp_mkDocs.modes = [.io, .rd] := rfl
@[push_cast] theorem sp_mkDocs_pure : sp_mkDocs.pure = false := rfl
@[push_cast] theorem sp_mkDocs_run (l : List Docu) (k : Int) : sp_mkDocs.run [.own true ⟨.doc, l⟩, .int .i64 k] = some (some (0 ≤ k ∧ k + sumL cDo l ≤ 1073741824), .int .i64 (k + sumL cDo l), [.own true ⟨.doc, mkL mkDo cDo l k⟩]) := rfl
noncomputable def e_mkDocs : Env := mk [(58, sp_mkT), (23, sp_mkNodes)] [] []
@[push_cast] theorem e_mkDocs_gh : e_mkDocs.gh = ghOf [] := rfl
@[push_cast] theorem e_mkDocs_dr : e_mkDocs.dr = drOf [] := rfl
@[push_cast] theorem e_mkDocs_td : e_mkDocs.td = td := rfl
@[push_cast] theorem e_mkDocs_eqt : e_mkDocs.eqt = eqt := rfl
@[push_cast] theorem e_mkDocs_cal : e_mkDocs.cal = calOf [(58, sp_mkT), (23, sp_mkNodes)] := rfl
theorem c_mkDocs : CRow P0 ety0 51 sp_mkDocs := CRow.of (E := e_mkDocs) (mkOk (.cons c_mkT (.cons c_mkNodes (.nil)))) func51 rfl rfl rfl (by
  intro args p r outs h hq
  simp only [sp_mkDocs] at h; split at h <;> cases h
  rename_i l k
  obtain ⟨h0, h1⟩ := hq _ rfl
  have hl := len_sum cDo (fun x => by simp only [cDo]; omega) l
  refine Body.intro (rs := [.tmp 4]) rfl rfl rfl ?_
  apply vc_run 1000 (stop := false) rfl; simp only [push_cast, reduceIte, Nat.reduceEqDiff, Nat.reduceAdd, Nat.reduceSub, Nat.reduceLT, Int.reduceNeg, Int.reduceLE, Int.reduceLT, Int.reduceToNat, Nat.reduceLeDiff, UInt8.reduceOfNat, UInt8.reduceOfNatLT, and_self, Nat.reduceMul, decide_true, decide_false, Bool.not_true, Bool.not_false, implies_true]
  refine Run.loop [1, 5] [0] [1000000] rfl (fun n vs bs => ∃ j : Nat, vs = [.int .i64 (k + sumL cDo (l.take j)), .int .i64 j] ∧ bs = [[.own true ⟨.doc, mkP mkDo cDo l k j⟩]] ∧ j ≤ l.length ∧ n = l.length - j) l.length ?_ ?_
  · simp only [push_cast, reduceIte, Nat.reduceEqDiff, Nat.reduceAdd, Nat.reduceSub, Nat.reduceLT, Int.reduceNeg, Int.reduceLE, Int.reduceLT, Int.reduceToNat, Nat.reduceLeDiff, UInt8.reduceOfNat, UInt8.reduceOfNatLT, and_self, Nat.reduceMul, decide_true, decide_false, Bool.not_true, Bool.not_false, implies_true]
    exact ⟨0, by simp [sumL], by rw [mkP_0], by omega, by omega⟩
  rintro n vs bs ⟨j, rfl, rfl, hj, rfl⟩
  simp only [push_cast, reduceIte, Nat.reduceEqDiff, Nat.reduceAdd, Nat.reduceSub, Nat.reduceLT, Int.reduceNeg, Int.reduceLE, Int.reduceLT, Int.reduceToNat, Nat.reduceLeDiff, UInt8.reduceOfNat, UInt8.reduceOfNatLT, and_self, Nat.reduceMul, decide_true, decide_false, Bool.not_true, Bool.not_false, implies_true]
  apply vc_run 1000 (stop := false) rfl; simp only [push_cast, reduceIte, Nat.reduceEqDiff, Nat.reduceAdd, Nat.reduceSub, Nat.reduceLT, Int.reduceNeg, Int.reduceLE, Int.reduceLT, Int.reduceToNat, Nat.reduceLeDiff, UInt8.reduceOfNat, UInt8.reduceOfNatLT, and_self, Nat.reduceMul, decide_true, decide_false, Bool.not_true, Bool.not_false, implies_true]
  rw [mkP_len]
  refine ⟨fun hlt => ?_, fun hge => ?_⟩
  · have hlt : j < l.length := Int.ofNat_lt.1 (of_decide_eq_true hlt)
    have hset := mkP_set mkDo cDo k docD hlt
    have hget := mkP_get mkDo cDo k docD hlt
    have hst := sumL_step cDo docD hlt
    have htl := sumL_take_le cDo l (j + 1)
    have hgs : ∀ y, ((mkP mkDo cDo l k j).set j y).getD j docD = y := fun y => by
      have : j < (mkP mkDo cDo l k j).length := by rw [mkP_len]; exact hlt
      simp [List.getD, this]
    simp only [gd_nat, hget, Int.toNat_natCast, List.length_set, mkP_len, List.set_set, hgs]
    have e1 : cDo (l.getD j docD) = 1 + sumL cNd (l.getD j docD).kids := rfl
    repeat' apply And.intro
    all_goals first | omega | skip
    refine ⟨_, ?_, j + 1, ?_, ?_, by omega, rfl⟩
    · omega
    · rw [hst, e1]; congr 2; omega
    · rw [← hset]; rfl
  · have hge : j = l.length := by have := of_decide_eq_false hge; omega
    subst hge
    rw [List.take_length, mkP_all]
    exact ⟨rfl, rfl⟩)
noncomputable def sp_hdDocs : Spec := ⟨[.sl .doc, .sc], [.rd, .rd], true, fun
  | [.dat ⟨.doc, l⟩, .int .i64 k] => some (some (0 ≤ k ∧ k + sumL cDo l ≤ 1073741824 ∧ Mkd mkDo cDo l k), .int .i64 (k + sumL cDo l), [])
  | _ => none⟩
@[push_cast] theorem sp_hdDocs_ps : sp_hdDocs.ps = [.sl .doc, .sc] := rfl
@[push_cast] theorem sp_hdDocs_md : sp_hdDocs.modes = [.rd, .rd] := rfl
@[push_cast] theorem sp_hdDocs_pure : sp_hdDocs.pure = true := rfl
@[push_cast] theorem sp_hdDocs_run (l : List Docu) (k : Int) : sp_hdDocs.run [.dat ⟨.doc, l⟩, .int .i64 k] = some (some (0 ≤ k ∧ k + sumL cDo l ≤ 1073741824 ∧ Mkd mkDo cDo l k), .int .i64 (k + sumL cDo l), []) := rfl
noncomputable def e_hdDocs : Env := mk [(58, sp_mkT), (33, sp_hdNodes)] [(4, [], [])] []
@[push_cast] theorem e_hdDocs_gh : e_hdDocs.gh = ghOf [] := rfl
@[push_cast] theorem e_hdDocs_dr : e_hdDocs.dr = drOf [(4, [], [])] := rfl
@[push_cast] theorem e_hdDocs_td : e_hdDocs.td = td := rfl
@[push_cast] theorem e_hdDocs_eqt : e_hdDocs.eqt = eqt := rfl
@[push_cast] theorem e_hdDocs_cal : e_hdDocs.cal = calOf [(58, sp_mkT), (33, sp_hdNodes)] := rfl
theorem c_hdDocs : CRow P0 ety0 52 sp_hdDocs := CRow.of (E := e_hdDocs) (mkOk (.cons c_mkT (.cons c_hdNodes (.nil)))) func52 rfl rfl rfl (by
  intro args p r outs h hq
  simp only [sp_hdDocs] at h; split at h <;> cases h
  rename_i l k
  obtain ⟨h0, h1, hm⟩ := hq _ rfl
  have hl := len_sum cDo (fun x => by simp only [cDo]; omega) l
  refine Body.intro (rs := [.tmp 4]) rfl rfl rfl ?_
  apply vc_run 1000 (stop := false) rfl; simp only [push_cast, reduceIte, Nat.reduceEqDiff, Nat.reduceAdd, Nat.reduceSub, Nat.reduceLT, Int.reduceNeg, Int.reduceLE, Int.reduceLT, Int.reduceToNat, Nat.reduceLeDiff, UInt8.reduceOfNat, UInt8.reduceOfNatLT, and_self, Nat.reduceMul, decide_true, decide_false, Bool.not_true, Bool.not_false, implies_true]
  refine Run.loop [1, 5] [0] [] rfl (fun n vs bs => ∃ j : Nat, vs = [.int .i64 (k + sumL cDo (l.take j)), .int .i64 j] ∧ bs = [] ∧ j ≤ l.length ∧ n = l.length - j) l.length ?_ ?_
  · simp only [push_cast, reduceIte, Nat.reduceEqDiff, Nat.reduceAdd, Nat.reduceSub, Nat.reduceLT, Int.reduceNeg, Int.reduceLE, Int.reduceLT, Int.reduceToNat, Nat.reduceLeDiff, UInt8.reduceOfNat, UInt8.reduceOfNatLT, and_self, Nat.reduceMul, decide_true, decide_false, Bool.not_true, Bool.not_false, implies_true]
    exact ⟨0, by simp [sumL], by omega, by omega⟩
  rintro n vs bs ⟨j, rfl, rfl, hj, rfl⟩
  simp only [push_cast, reduceIte, Nat.reduceEqDiff, Nat.reduceAdd, Nat.reduceSub, Nat.reduceLT, Int.reduceNeg, Int.reduceLE, Int.reduceLT, Int.reduceToNat, Nat.reduceLeDiff, UInt8.reduceOfNat, UInt8.reduceOfNatLT, and_self, Nat.reduceMul, decide_true, decide_false, Bool.not_true, Bool.not_false, implies_true]
  apply vc_run 1000 (stop := false) rfl; simp only [push_cast, reduceIte, Nat.reduceEqDiff, Nat.reduceAdd, Nat.reduceSub, Nat.reduceLT, Int.reduceNeg, Int.reduceLE, Int.reduceLT, Int.reduceToNat, Nat.reduceLeDiff, UInt8.reduceOfNat, UInt8.reduceOfNatLT, and_self, Nat.reduceMul, decide_true, decide_false, Bool.not_true, Bool.not_false, implies_true]
  refine ⟨fun hlt => ?_, fun hge => ?_⟩
  · have hlt : j < l.length := Int.ofNat_lt.1 (of_decide_eq_true hlt)
    have hat := hm.at docD hlt
    have hst := sumL_step cDo docD hlt
    have htl := sumL_take_le cDo l (j + 1)
    simp only [gd_nat]
    have e1 : cDo (l.getD j docD) = 1 + sumL cNd (l.getD j docD).kids := rfl
    have f1 : (l.getD j docD).name = mkT (k + sumL cDo (l.take j)) := congrArg Docu.name hat
    have f2 : Mkd mkNd cNd (l.getD j docD).kids (k + sumL cDo (l.take j) + 1) := congrArg Docu.kids hat
    rw [f1]
    clear hat hm hq f1
    repeat' (first | apply And.intro | intro)
    all_goals first | omega | assumption | (exfalso; rename_i h; have := of_decide_eq_true h; omega) | (exfalso; rename_i h; simp at h; done) | skip
    refine ⟨_, ?_, j + 1, ?_, by omega, rfl⟩
    · omega
    · rw [hst, e1]; congr 2; omega
  · have hge : j = l.length := by have := of_decide_eq_false hge; omega
    subst hge
    rw [List.take_length])
end Go.Ab
