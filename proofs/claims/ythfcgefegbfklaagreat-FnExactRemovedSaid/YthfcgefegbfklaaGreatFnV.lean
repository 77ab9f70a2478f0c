/- Houses. -/
import Derived.Test.YthfcgefegbfklaaGreatFnH
import Derived.Test.YthfcgefegbfklaaGreatFnU
set_option linter.all false
set_option linter.unusedSimpArgs false
set_option linter.unusedVariables false
set_option linter.unusedSectionVars false
set_option maxRecDepth 20000
set_option maxHeartbeats 1000000
namespace Go.Ab
open Go Go.Proofs.Tryz
def szDo (d : Docu) : Nat := d.name.length + szL szNd d.kids
def fitDo (d : Docu) : Prop := fitStr d.name ∧ fitL fitNd d.kids
@[push_cast] theorem eta_doc (d : Docu) : (⟨d.name, d.kids⟩ : Docu) = d := rfl
@[push_cast] theorem eta_cfg (c : Cfg) : (⟨c.hasAllow, c.hasAttrs, c.allow, c.remove, c.unwrap, c.attrs, c.drop, c.comments, c.data⟩ : Cfg) = c := rfl
noncomputable def sp_szDoc : Spec := ⟨[.st .doc, .sc], [.rd, .rd], true, fun
  | [.agg [.str m, .dat ⟨.node, ks⟩], .int .i64 n] => some (some (0 ≤ n ∧ n ≤ 1048576 ∧ fitDo ⟨m, ks⟩), .int .i64 (szR (szDo ⟨m, ks⟩) n), [])
  | _ => none⟩
@[push_cast] theorem sp_szDoc_ps : sp_szDoc.ps = [.st .doc, .sc] := rfl
@[push_cast] theorem sp_szDoc_md : sp_szDoc.modes = [.rd, .rd] := rfl
@[push_cast] theorem sp_szDoc_pure : sp_szDoc.pure = true := rfl
@[push_cast] theorem sp_szDoc_run (m : Str) (ks : List Node) (n : Int) : sp_szDoc.run [.agg [.str m, .dat ⟨.node, ks⟩], .int .i64 n] = some (some (0 ≤ n ∧ n ≤ 1048576 ∧ fitDo ⟨m, ks⟩), .int .i64 (szR (szDo ⟨m, ks⟩) n), []) := rfl
noncomputable def e_szDoc : Env := mk [(15, sp_szNodeS)] [] []
@[push_cast] theorem e_szDoc_gh : e_szDoc.gh = ghOf [] := rfl
@[push_cast] theorem e_szDoc_dr : e_szDoc.dr = drOf [] := rfl
@[push_cast] theorem e_szDoc_td : e_szDoc.td = td := rfl
@[push_cast] theorem e_szDoc_eqt : e_szDoc.eqt = eqt := rfl
@[push_cast] theorem e_szDoc_cal : e_szDoc.cal = calOf [(15, sp_szNodeS)] := rfl
theorem c_szDoc : CRow P0 ety0 61 sp_szDoc := CRow.of (E := e_szDoc) (mkOk (.cons c_szNodeS (.nil))) func61 rfl rfl rfl (by
  intro args p r outs h hq
  simp only [sp_szDoc] at h; split at h <;> cases h
  rename_i m ks n
  obtain ⟨h0, h1, hm, hk⟩ := hq _ rfl
  have hm : m.length ≤ 9223372036854775807 := hm
  have e : szDo ⟨m, ks⟩ = m.length + szL szNd ks := rfl
  obtain ⟨c, hc⟩ : ∃ c, c = szDo ⟨m, ks⟩ := ⟨_, rfl⟩
  refine Body.intro (rs := [.tmp 4]) rfl rfl rfl ?_
  apply vc_run 1000 (stop := false) rfl; simp only [push_cast, reduceIte, Nat.reduceEqDiff, Nat.reduceAdd, Nat.reduceSub, Nat.reduceLT, Int.reduceNeg, Int.reduceLE, Int.reduceLT, Int.reduceToNat, Nat.reduceLeDiff, UInt8.reduceOfNat, UInt8.reduceOfNatLT, and_self, Nat.reduceMul, decide_true, decide_false, Bool.not_true, Bool.not_false, implies_true]
  rw [← hc] at e ⊢
  refine ⟨by constructor <;> omega, fun h => ?_, fun h => ⟨⟨?_, ?_, hk⟩, fun h3 => ?_, fun h3 => ?_⟩⟩
  · have := of_decide_eq_true h; rw [← szR_m1 (by omega)]
  · have := of_decide_eq_false h; omega
  · omega
  · have h2' := of_decide_eq_false h; have := of_decide_eq_true h3; rw [szR_lt (by omega)] at this; rw [← szR_m1 (by omega)]
  · have h2' := of_decide_eq_false h
    have h3' := of_decide_eq_false h3
    obtain ⟨s1, s2, s3, s4⟩ := szR_le h3' (by omega)
    rw [s3, szR, if_neg (by omega)]; congr 1; omega)
noncomputable def sp_szDocS : Spec := ⟨[.sl .doc, .sc], [.rd, .rd], true, fun
  | [.dat ⟨.doc, l⟩, .int .i64 n] => some (some (0 ≤ n ∧ n ≤ 1048576 ∧ fitL fitDo l), .int .i64 (szR (szL szDo l) n), [])
  | _ => none⟩
@[push_cast] theorem sp_szDocS_ps : sp_szDocS.ps = [.sl .doc, .sc] := rfl
@[push_cast] theorem sp_szDocS_md : sp_szDocS.modes = [.rd, .rd] := rfl
@[push_cast] theorem sp_szDocS_pure : sp_szDocS.pure = true := rfl
@[push_cast] theorem sp_szDocS_run (l : List Docu) (n : Int) : sp_szDocS.run [.dat ⟨.doc, l⟩, .int .i64 n] = some (some (0 ≤ n ∧ n ≤ 1048576 ∧ fitL fitDo l), .int .i64 (szR (szL szDo l) n), []) := rfl
noncomputable def e_szDocS : Env := mk [(61, sp_szDoc)] [] []
@[push_cast] theorem e_szDocS_gh : e_szDocS.gh = ghOf [] := rfl
@[push_cast] theorem e_szDocS_dr : e_szDocS.dr = drOf [] := rfl
@[push_cast] theorem e_szDocS_td : e_szDocS.td = td := rfl
@[push_cast] theorem e_szDocS_eqt : e_szDocS.eqt = eqt := rfl
@[push_cast] theorem e_szDocS_cal : e_szDocS.cal = calOf [(61, sp_szDoc)] := rfl
theorem c_szDocS : CRow P0 ety0 27 sp_szDocS := CRow.of (E := e_szDocS) (mkOk (.cons c_szDoc (.nil))) func27 rfl rfl rfl (by
  intro args p r outs h hq
  simp only [sp_szDocS] at h; split at h <;> cases h
  rename_i l n
  obtain ⟨h0, h1, hl, hx⟩ := hq _ rfl
  have hl' : l.length ≤ 9223372036854775807 := hl
  refine Body.intro (rs := [.tmp 4]) rfl rfl rfl ?_
  apply vc_run 1000 (stop := false) rfl; simp only [push_cast, reduceIte, Nat.reduceEqDiff, Nat.reduceAdd, Nat.reduceSub, Nat.reduceLT, Int.reduceNeg, Int.reduceLE, Int.reduceLT, Int.reduceToNat, Nat.reduceLeDiff, UInt8.reduceOfNat, UInt8.reduceOfNatLT, and_self, Nat.reduceMul, decide_true, decide_false, Bool.not_true, Bool.not_false, implies_true]
  refine ⟨by constructor <;> omega, fun h => ?_, fun h => ?_⟩
  · rw [szL, szR_neg _ h0 (by simpa using h)]
  have h : ¬ n - (l.length : Int) < 0 := by simpa using h
  refine Run.loop [1, 5] [0] [] rfl (fun m vs bs => ∃ k : Nat, vs = [.int .i64 (n - l.length - sumL szDo (l.take k)), .int .i64 k] ∧ bs = [] ∧ k ≤ l.length ∧ 0 ≤ n - l.length - sumL szDo (l.take k) ∧ m = l.length - k) l.length ?_ ?_
  · simp only [push_cast, reduceIte, Nat.reduceEqDiff, Nat.reduceAdd, Nat.reduceSub, Nat.reduceLT, Int.reduceNeg, Int.reduceLE, Int.reduceLT, Int.reduceToNat, Nat.reduceLeDiff, UInt8.reduceOfNat, UInt8.reduceOfNatLT, and_self, Nat.reduceMul, decide_true, decide_false, Bool.not_true, Bool.not_false, implies_true]
    exact ⟨0, by simp [sumL], by omega, by simp [sumL]; omega, by omega⟩
  rintro m vs bs ⟨k, rfl, rfl, hk, hp, rfl⟩
  simp only [push_cast, reduceIte, Nat.reduceEqDiff, Nat.reduceAdd, Nat.reduceSub, Nat.reduceLT, Int.reduceNeg, Int.reduceLE, Int.reduceLT, Int.reduceToNat, Nat.reduceLeDiff, UInt8.reduceOfNat, UInt8.reduceOfNatLT, and_self, Nat.reduceMul, decide_true, decide_false, Bool.not_true, Bool.not_false, implies_true]
  apply vc_run 1000 (stop := false) rfl; simp only [push_cast, reduceIte, Nat.reduceEqDiff, Nat.reduceAdd, Nat.reduceSub, Nat.reduceLT, Int.reduceNeg, Int.reduceLE, Int.reduceLT, Int.reduceToNat, Nat.reduceLeDiff, UInt8.reduceOfNat, UInt8.reduceOfNatLT, and_self, Nat.reduceMul, decide_true, decide_false, Bool.not_true, Bool.not_false, implies_true]
  have hle := sumL_take_le szDo l k
  refine ⟨fun hlt => ?_, fun hge => ?_⟩
  · have hlt : k < l.length := by simpa using hlt
    have hs := sumL_take szDo l docD hlt
    have hf : fitDo (l.getD k docD) := fit_at hx hlt
    have hle1 := sumL_take_le szDo l (k + 1)
    simp only [gd_nat]
    generalize hR : szR _ _ = R
    have hR' : R = szR (szDo (l.getD k docD)) (n - l.length - sumL szDo (l.take k)) := hR.symm
    refine ⟨by omega, ⟨hp, by omega, hf⟩, fun hneg => ?_, fun hpos => ⟨by constructor <;> omega, _, by omega, k + 1, ?_, by omega, ?_, rfl⟩⟩
    · have hneg : R < 0 := by simpa using hneg
      rw [hR', szR_lt hp] at hneg
      rw [szL, szR, if_pos (by omega)]
    · have hpos : ¬ R < 0 := by simpa using hpos
      rw [hR', szR_lt hp] at hpos
      rw [hR', szR, if_neg hpos, hs]; simp; omega
    · have hpos : ¬ R < 0 := by simpa using hpos
      rw [hR', szR_lt hp] at hpos
      omega
  · have hge : k = l.length := by simp at hge; omega
    subst hge
    rw [List.take_length] at hp ⊢
    rw [szL, szR, if_neg (by omega)]
    congr 1
    omega)
noncomputable def sp_szConfigS : Spec := ⟨[.sl .cfg, .sc], [.rd, .rd], true, fun
  | [.dat ⟨.cfg, l⟩, .int .i64 n] => some (some (0 ≤ n ∧ n ≤ 1048576 ∧ fitL fitCfg l), .int .i64 (szR (szL szCfg l) n), [])
  | _ => none⟩
@[push_cast] theorem sp_szConfigS_ps : sp_szConfigS.ps = [.sl .cfg, .sc] := rfl
@[push_cast] theorem sp_szConfigS_md : sp_szConfigS.modes = [.rd, .rd] := rfl
@[push_cast] theorem sp_szConfigS_pure : sp_szConfigS.pure = true := rfl
@[push_cast] theorem sp_szConfigS_run (l : List Cfg) (n : Int) : sp_szConfigS.run [.dat ⟨.cfg, l⟩, .int .i64 n] = some (some (0 ≤ n ∧ n ≤ 1048576 ∧ fitL fitCfg l), .int .i64 (szR (szL szCfg l) n), []) := rfl
noncomputable def e_szConfigS : Env := mk [(16, sp_szConfig)] [] []
@[push_cast] theorem e_szConfigS_gh : e_szConfigS.gh = ghOf [] := rfl
@[push_cast] theorem e_szConfigS_dr : e_szConfigS.dr = drOf [] := rfl
@[push_cast] theorem e_szConfigS_td : e_szConfigS.td = td := rfl
@[push_cast] theorem e_szConfigS_eqt : e_szConfigS.eqt = eqt := rfl
@[push_cast] theorem e_szConfigS_cal : e_szConfigS.cal = calOf [(16, sp_szConfig)] := rfl
theorem c_szConfigS : CRow P0 ety0 28 sp_szConfigS := CRow.of (E := e_szConfigS) (mkOk (.cons c_szConfig (.nil))) func28 rfl rfl rfl (by
  intro args p r outs h hq
  simp only [sp_szConfigS] at h; split at h <;> cases h
  rename_i l n
  obtain ⟨h0, h1, hl, hx⟩ := hq _ rfl
  have hl' : l.length ≤ 9223372036854775807 := hl
  refine Body.intro (rs := [.tmp 4]) rfl rfl rfl ?_
  apply vc_run 1000 (stop := false) rfl; simp only [push_cast, reduceIte, Nat.reduceEqDiff, Nat.reduceAdd, Nat.reduceSub, Nat.reduceLT, Int.reduceNeg, Int.reduceLE, Int.reduceLT, Int.reduceToNat, Nat.reduceLeDiff, UInt8.reduceOfNat, UInt8.reduceOfNatLT, and_self, Nat.reduceMul, decide_true, decide_false, Bool.not_true, Bool.not_false, implies_true]
  refine ⟨by constructor <;> omega, fun h => ?_, fun h => ?_⟩
  · rw [szL, szR_neg _ h0 (by simpa using h)]
  have h : ¬ n - (l.length : Int) < 0 := by simpa using h
  refine Run.loop [1, 5] [0] [] rfl (fun m vs bs => ∃ k : Nat, vs = [.int .i64 (n - l.length - sumL szCfg (l.take k)), .int .i64 k] ∧ bs = [] ∧ k ≤ l.length ∧ 0 ≤ n - l.length - sumL szCfg (l.take k) ∧ m = l.length - k) l.length ?_ ?_
  · simp only [push_cast, reduceIte, Nat.reduceEqDiff, Nat.reduceAdd, Nat.reduceSub, Nat.reduceLT, Int.reduceNeg, Int.reduceLE, Int.reduceLT, Int.reduceToNat, Nat.reduceLeDiff, UInt8.reduceOfNat, UInt8.reduceOfNatLT, and_self, Nat.reduceMul, decide_true, decide_false, Bool.not_true, Bool.not_false, implies_true]
    exact ⟨0, by simp [sumL], by omega, by simp [sumL]; omega, by omega⟩
  rintro m vs bs ⟨k, rfl, rfl, hk, hp, rfl⟩
  simp only [push_cast, reduceIte, Nat.reduceEqDiff, Nat.reduceAdd, Nat.reduceSub, Nat.reduceLT, Int.reduceNeg, Int.reduceLE, Int.reduceLT, Int.reduceToNat, Nat.reduceLeDiff, UInt8.reduceOfNat, UInt8.reduceOfNatLT, and_self, Nat.reduceMul, decide_true, decide_false, Bool.not_true, Bool.not_false, implies_true]
  apply vc_run 1000 (stop := false) rfl; simp only [push_cast, reduceIte, Nat.reduceEqDiff, Nat.reduceAdd, Nat.reduceSub, Nat.reduceLT, Int.reduceNeg, Int.reduceLE, Int.reduceLT, Int.reduceToNat, Nat.reduceLeDiff, UInt8.reduceOfNat, UInt8.reduceOfNatLT, and_self, Nat.reduceMul, decide_true, decide_false, Bool.not_true, Bool.not_false, implies_true]
  have hle := sumL_take_le szCfg l k
  refine ⟨fun hlt => ?_, fun hge => ?_⟩
  · have hlt : k < l.length := by simpa using hlt
    have hs := sumL_take szCfg l cfgD hlt
    have hf : fitCfg (l.getD k cfgD) := fit_at hx hlt
    have hle1 := sumL_take_le szCfg l (k + 1)
    simp only [gd_nat]
    generalize hR : szR _ _ = R
    have hR' : R = szR (szCfg (l.getD k cfgD)) (n - l.length - sumL szCfg (l.take k)) := hR.symm
    refine ⟨by omega, ⟨hp, by omega, hf⟩, fun hneg => ?_, fun hpos => ⟨by constructor <;> omega, _, by omega, k + 1, ?_, by omega, ?_, rfl⟩⟩
    · have hneg : R < 0 := by simpa using hneg
      rw [hR', szR_lt hp] at hneg
      rw [szL, szR, if_pos (by omega)]
    · have hpos : ¬ R < 0 := by simpa using hpos
      rw [hR', szR_lt hp] at hpos
      rw [hR', szR, if_neg hpos, hs]; simp; omega
    · have hpos : ¬ R < 0 := by simpa using hpos
      rw [hR', szR_lt hp] at hpos
      omega
  · have hge : k = l.length := by simp at hge; omega
    subst hge
    rw [List.take_length] at hp ⊢
    rw [szL, szR, if_neg (by omega)]
    congr 1
    omega)
noncomputable def sp_szHouse : Spec := ⟨[.sc, .sc], [.rd, .rd], true, fun
  | [.agg [.dat ⟨.doc, ds⟩, .dat ⟨.cfg, cs⟩], .int .i64 n] => some (some (0 ≤ n ∧ n ≤ 1048576 ∧ fitL fitDo ds ∧ fitL fitCfg cs), .int .i64 (szR (szL szDo ds + szL szCfg cs) n), [])
  | _ => none⟩
@[push_cast] theorem sp_szHouse_ps : sp_szHouse.ps = [.sc, .sc] := rfl
@[push_cast] theorem sp_szHouse_md : sp_szHouse.modes = [.rd, .rd] := rfl
@[push_cast] theorem sp_szHouse_pure : sp_szHouse.pure = true := rfl
@[push_cast] theorem sp_szHouse_run (ds : List Docu) (cs : List Cfg) (n : Int) : sp_szHouse.run [.agg [.dat ⟨.doc, ds⟩, .dat ⟨.cfg, cs⟩], .int .i64 n] = some (some (0 ≤ n ∧ n ≤ 1048576 ∧ fitL fitDo ds ∧ fitL fitCfg cs), .int .i64 (szR (szL szDo ds + szL szCfg cs) n), []) := rfl
noncomputable def e_szHouse : Env := mk [(27, sp_szDocS), (28, sp_szConfigS)] [] []
@[push_cast] theorem e_szHouse_gh : e_szHouse.gh = ghOf [] := rfl
@[push_cast] theorem e_szHouse_dr : e_szHouse.dr = drOf [] := rfl
@[push_cast] theorem e_szHouse_td : e_szHouse.td = td := rfl
@[push_cast] theorem e_szHouse_eqt : e_szHouse.eqt = eqt := rfl
@[push_cast] theorem e_szHouse_cal : e_szHouse.cal = calOf [(27, sp_szDocS), (28, sp_szConfigS)] := rfl
theorem c_szHouse : CRow P0 ety0 8 sp_szHouse := CRow.of (E := e_szHouse) (mkOk (.cons c_szDocS (.cons c_szConfigS (.nil)))) func8 rfl rfl rfl (by
  intro args p r outs h hq
  simp only [sp_szHouse] at h; split at h <;> cases h
  rename_i ds cs n
  obtain ⟨h0, h1, hd, hc⟩ := hq _ rfl
  refine Body.intro (rs := [.tmp 4]) rfl rfl rfl ?_
  apply vc_run 1000 (stop := false) rfl; simp only [push_cast, reduceIte, Nat.reduceEqDiff, Nat.reduceAdd, Nat.reduceSub, Nat.reduceLT, Int.reduceNeg, Int.reduceLE, Int.reduceLT, Int.reduceToNat, Nat.reduceLeDiff, UInt8.reduceOfNat, UInt8.reduceOfNatLT, and_self, Nat.reduceMul, decide_true, decide_false, Bool.not_true, Bool.not_false, implies_true]
  refine ⟨⟨h0, h1, hd⟩, fun h => congrArg _ (szR_neg' h h0 (by omega)), fun h => ?_⟩
  have p := szR_pos h
  have t := szR_top h0 p
  simp only [szR_fold p h0]
  exact ⟨⟨p, by omega, hc⟩, fun h => congrArg _ (szR_neg' h h0 (by omega)), fun _ => trivial⟩)
noncomputable def sp_toDoc : Spec := ⟨[.st .doc], [.rd], false, fun
  | [.agg [.str m, .dat ⟨.node, ks⟩]] => some (some (szL szNd ks ≤ 1048576), .agg [.str m, .own true ⟨.node, ks⟩], [])
  | _ => none⟩
@[push_cast] theorem sp_toDoc_ps : sp_toDoc.ps = [.st .doc] := rfl
@[push_cast] theorem sp_toDoc_md : sp_toDoc.modes = [.rd] := rfl
@[push_cast] theorem sp_toDoc_pure : sp_toDoc.pure = false := rfl
@[push_cast] theorem sp_toDoc_run (m : Str) (ks : List Node) : sp_toDoc.run [.agg [.str m, .dat ⟨.node, ks⟩]] = some (some (szL szNd ks ≤ 1048576), .agg [.str m, .own true ⟨.node, ks⟩], []) := rfl
noncomputable def e_toDoc : Env := mk [(18, sp_toNodeS)] [] []
@[push_cast] theorem e_toDoc_gh : e_toDoc.gh = ghOf [] := rfl
@[push_cast] theorem e_toDoc_dr : e_toDoc.dr = drOf [] := rfl
@[push_cast] theorem e_toDoc_td : e_toDoc.td = td := rfl
@[push_cast] theorem e_toDoc_eqt : e_toDoc.eqt = eqt := rfl
@[push_cast] theorem e_toDoc_cal : e_toDoc.cal = calOf [(18, sp_toNodeS)] := rfl
theorem c_toDoc : CRow P0 ety0 64 sp_toDoc := CRow.of (E := e_toDoc) (mkOk (.cons c_toNodeS (.nil))) func64 rfl rfl rfl (by
  intro args p r outs h hq
  simp only [sp_toDoc] at h; split at h <;> cases h
  rename_i m ks
  have hz := hq _ rfl
  refine Body.intro (rs := [.cell 2 61]) rfl rfl rfl ?_
  apply vc_run 1000 (stop := false) rfl; simp only [push_cast, reduceIte, Nat.reduceEqDiff, Nat.reduceAdd, Nat.reduceSub, Nat.reduceLT, Int.reduceNeg, Int.reduceLE, Int.reduceLT, Int.reduceToNat, Nat.reduceLeDiff, UInt8.reduceOfNat, UInt8.reduceOfNatLT, and_self, Nat.reduceMul, decide_true, decide_false, Bool.not_true, Bool.not_false, implies_true]
  exact hz)
noncomputable def sp_toDocS : Spec := ⟨[.sl .doc], [.rd], false, fun
  | [.dat ⟨.doc, l⟩] => some (some (szL szDo l ≤ 1048576), .own true ⟨.doc, l⟩, [])
  | _ => none⟩
@[push_cast] theorem sp_toDocS_ps : sp_toDocS.ps = [.sl .doc] := rfl
@[push_cast] theorem sp_toDocS_md : sp_toDocS.modes = [.rd] := rfl
@[push_cast] theorem sp_toDocS_pure : sp_toDocS.pure = false := rfl
@[push_cast] theorem sp_toDocS_run (l : List Docu) : sp_toDocS.run [.dat ⟨.doc, l⟩] = some (some (szL szDo l ≤ 1048576), .own true ⟨.doc, l⟩, []) := rfl
noncomputable def e_toDocS : Env := mk [(64, sp_toDoc)] [] []
@[push_cast] theorem e_toDocS_gh : e_toDocS.gh = ghOf [] := rfl
@[push_cast] theorem e_toDocS_dr : e_toDocS.dr = drOf [] := rfl
@[push_cast] theorem e_toDocS_td : e_toDocS.td = td := rfl
@[push_cast] theorem e_toDocS_eqt : e_toDocS.eqt = eqt := rfl
@[push_cast] theorem e_toDocS_cal : e_toDocS.cal = calOf [(64, sp_toDoc)] := rfl
theorem c_toDocS : CRow P0 ety0 30 sp_toDocS := CRow.of (E := e_toDocS) (mkOk (.cons c_toDoc (.nil))) func30 rfl rfl rfl (by
  intro args p r outs h hq
  simp only [sp_toDocS] at h; split at h <;> cases h
  rename_i l
  have hz := hq _ rfl
  have hl : l.length ≤ 1048576 := Nat.le_trans (szL_len _ _) hz
  refine Body.intro (rs := [.tmp 2]) rfl rfl rfl ?_
  apply vc_run 1000 (stop := false) rfl; simp only [push_cast, reduceIte, Nat.reduceEqDiff, Nat.reduceAdd, Nat.reduceSub, Nat.reduceLT, Int.reduceNeg, Int.reduceLE, Int.reduceLT, Int.reduceToNat, Nat.reduceLeDiff, UInt8.reduceOfNat, UInt8.reduceOfNatLT, and_self, Nat.reduceMul, decide_true, decide_false, Bool.not_true, Bool.not_false, implies_true]
  refine ⟨by omega, ?_⟩
  refine Run.loop [3, 4] [0] [] rfl (fun m vs bs => ∃ k : Nat, vs = [.own true ⟨.doc, fillL l docD k⟩, .int .i64 k] ∧ bs = [] ∧ k ≤ l.length ∧ m = l.length - k) l.length ?_ ?_
  · simp only [push_cast, reduceIte, Nat.reduceEqDiff, Nat.reduceAdd, Nat.reduceSub, Nat.reduceLT, Int.reduceNeg, Int.reduceLE, Int.reduceLT, Int.reduceToNat, Nat.reduceLeDiff, UInt8.reduceOfNat, UInt8.reduceOfNatLT, and_self, Nat.reduceMul, decide_true, decide_false, Bool.not_true, Bool.not_false, implies_true]
    exact ⟨0, by rw [fillL_0]; rfl, by omega, by omega⟩
  rintro m vs bs ⟨k, rfl, rfl, hk, rfl⟩
  simp only [push_cast, reduceIte, Nat.reduceEqDiff, Nat.reduceAdd, Nat.reduceSub, Nat.reduceLT, Int.reduceNeg, Int.reduceLE, Int.reduceLT, Int.reduceToNat, Nat.reduceLeDiff, UInt8.reduceOfNat, UInt8.reduceOfNatLT, and_self, Nat.reduceMul, decide_true, decide_false, Bool.not_true, Bool.not_false, implies_true]
  apply vc_run 1000 (stop := false) rfl; simp only [push_cast, reduceIte, Nat.reduceEqDiff, Nat.reduceAdd, Nat.reduceSub, Nat.reduceLT, Int.reduceNeg, Int.reduceLE, Int.reduceLT, Int.reduceToNat, Nat.reduceLeDiff, UInt8.reduceOfNat, UInt8.reduceOfNatLT, and_self, Nat.reduceMul, decide_true, decide_false, Bool.not_true, Bool.not_false, implies_true]
  rw [fillL_len _ _ _ hk]
  refine ⟨fun hlt => ?_, fun hge => ?_⟩
  · have hlt : k < l.length := by simpa using hlt
    have hel : szDo (l.getD k docD) ≤ 1048576 := Nat.le_trans (szL_at _ _ hlt) hz
    simp only [gd_nat, Int.toNat_natCast]
    refine ⟨by omega, (by simp only [szDo] at hel; omega), by omega, by constructor <;> omega, _, by omega, k + 1, ?_, by omega, rfl⟩
    rw [← fillL_set _ _ hlt]
    first | rfl | (cases hc : l.getD k docD; rfl)
  · have hge : k = l.length := by simp at hge; omega
    subst hge
    rw [fillL_all])
noncomputable def sp_toConfigS : Spec := ⟨[.sl .cfg], [.rd], false, fun
  | [.dat ⟨.cfg, l⟩] => some (some (szL szCfg l ≤ 1048576), .own true ⟨.cfg, l⟩, [])
  | _ => none⟩
@[push_cast] theorem sp_toConfigS_ps : sp_toConfigS.ps = [.sl .cfg] := rfl
@[push_cast] theorem sp_toConfigS_md : sp_toConfigS.modes = [.rd] := rfl
@[push_cast] theorem sp_toConfigS_pure : sp_toConfigS.pure = false := rfl
@[push_cast] theorem sp_toConfigS_run (l : List Cfg) : sp_toConfigS.run [.dat ⟨.cfg, l⟩] = some (some (szL szCfg l ≤ 1048576), .own true ⟨.cfg, l⟩, []) := rfl
noncomputable def e_toConfigS : Env := mk [(19, sp_toConfig)] [] []
@[push_cast] theorem e_toConfigS_gh : e_toConfigS.gh = ghOf [] := rfl
@[push_cast] theorem e_toConfigS_dr : e_toConfigS.dr = drOf [] := rfl
@[push_cast] theorem e_toConfigS_td : e_toConfigS.td = td := rfl
@[push_cast] theorem e_toConfigS_eqt : e_toConfigS.eqt = eqt := rfl
@[push_cast] theorem e_toConfigS_cal : e_toConfigS.cal = calOf [(19, sp_toConfig)] := rfl
theorem c_toConfigS : CRow P0 ety0 31 sp_toConfigS := CRow.of (E := e_toConfigS) (mkOk (.cons c_toConfig (.nil))) func31 rfl rfl rfl (by
  intro args p r outs h hq
  simp only [sp_toConfigS] at h; split at h <;> cases h
  rename_i l
  have hz := hq _ rfl
  have hl : l.length ≤ 1048576 := Nat.le_trans (szL_len _ _) hz
  refine Body.intro (rs := [.tmp 2]) rfl rfl rfl ?_
  apply vc_run 1000 (stop := false) rfl; simp only [push_cast, reduceIte, Nat.reduceEqDiff, Nat.reduceAdd, Nat.reduceSub, Nat.reduceLT, Int.reduceNeg, Int.reduceLE, Int.reduceLT, Int.reduceToNat, Nat.reduceLeDiff, UInt8.reduceOfNat, UInt8.reduceOfNatLT, and_self, Nat.reduceMul, decide_true, decide_false, Bool.not_true, Bool.not_false, implies_true]
  refine ⟨by omega, ?_⟩
  refine Run.loop [3, 4] [0] [] rfl (fun m vs bs => ∃ k : Nat, vs = [.own true ⟨.cfg, fillL l cfgD k⟩, .int .i64 k] ∧ bs = [] ∧ k ≤ l.length ∧ m = l.length - k) l.length ?_ ?_
  · simp only [push_cast, reduceIte, Nat.reduceEqDiff, Nat.reduceAdd, Nat.reduceSub, Nat.reduceLT, Int.reduceNeg, Int.reduceLE, Int.reduceLT, Int.reduceToNat, Nat.reduceLeDiff, UInt8.reduceOfNat, UInt8.reduceOfNatLT, and_self, Nat.reduceMul, decide_true, decide_false, Bool.not_true, Bool.not_false, implies_true]
    exact ⟨0, by rw [fillL_0]; rfl, by omega, by omega⟩
  rintro m vs bs ⟨k, rfl, rfl, hk, rfl⟩
  simp only [push_cast, reduceIte, Nat.reduceEqDiff, Nat.reduceAdd, Nat.reduceSub, Nat.reduceLT, Int.reduceNeg, Int.reduceLE, Int.reduceLT, Int.reduceToNat, Nat.reduceLeDiff, UInt8.reduceOfNat, UInt8.reduceOfNatLT, and_self, Nat.reduceMul, decide_true, decide_false, Bool.not_true, Bool.not_false, implies_true]
  apply vc_run 1000 (stop := false) rfl; simp only [push_cast, reduceIte, Nat.reduceEqDiff, Nat.reduceAdd, Nat.reduceSub, Nat.reduceLT, Int.reduceNeg, Int.reduceLE, Int.reduceLT, Int.reduceToNat, Nat.reduceLeDiff, UInt8.reduceOfNat, UInt8.reduceOfNatLT, and_self, Nat.reduceMul, decide_true, decide_false, Bool.not_true, Bool.not_false, implies_true]
  rw [fillL_len _ _ _ hk]
  refine ⟨fun hlt => ?_, fun hge => ?_⟩
  · have hlt : k < l.length := by simpa using hlt
    have hel : szCfg (l.getD k cfgD) ≤ 1048576 := Nat.le_trans (szL_at _ _ hlt) hz
    simp only [gd_nat, Int.toNat_natCast]
    refine ⟨by omega, hel, by omega, by constructor <;> omega, _, by omega, k + 1, ?_, by omega, rfl⟩
    rw [← fillL_set _ _ hlt]
    first | rfl | (cases hc : l.getD k cfgD; rfl)
  · have hge : k = l.length := by simp at hge; omega
    subst hge
    rw [fillL_all])
noncomputable def sp_toHouse : Spec := ⟨[.sc], [.rd], false, fun
  | [.agg [.dat ⟨.doc, ds⟩, .dat ⟨.cfg, cs⟩]] => some (some (szL szDo ds ≤ 1048576 ∧ szL szCfg cs ≤ 1048576), .agg [.own true ⟨.doc, ds⟩, .own true ⟨.cfg, cs⟩], [])
  | _ => none⟩
@[push_cast] theorem sp_toHouse_ps : sp_toHouse.ps = [.sc] := rfl
@[push_cast] theorem sp_toHouse_md : sp_toHouse.modes = [.rd] := rfl
@[push_cast] theorem sp_toHouse_pure : sp_toHouse.pure = false := rfl
@[push_cast] theorem sp_toHouse_run (ds : List Docu) (cs : List Cfg) : sp_toHouse.run [.agg [.dat ⟨.doc, ds⟩, .dat ⟨.cfg, cs⟩]] = some (some (szL szDo ds ≤ 1048576 ∧ szL szCfg cs ≤ 1048576), .agg [.own true ⟨.doc, ds⟩, .own true ⟨.cfg, cs⟩], []) := rfl
noncomputable def e_toHouse : Env := mk [(30, sp_toDocS), (31, sp_toConfigS)] [] []
@[push_cast] theorem e_toHouse_gh : e_toHouse.gh = ghOf [] := rfl
@[push_cast] theorem e_toHouse_dr : e_toHouse.dr = drOf [] := rfl
@[push_cast] theorem e_toHouse_td : e_toHouse.td = td := rfl
@[push_cast] theorem e_toHouse_eqt : e_toHouse.eqt = eqt := rfl
@[push_cast] theorem e_toHouse_cal : e_toHouse.cal = calOf [(30, sp_toDocS), (31, sp_toConfigS)] := rfl
theorem c_toHouse : CRow P0 ety0 10 sp_toHouse := CRow.of (E := e_toHouse) (mkOk (.cons c_toDocS (.cons c_toConfigS (.nil)))) func10 rfl rfl rfl (by
  intro args p r outs h hq
  simp only [sp_toHouse] at h; split at h <;> cases h
  rename_i ds cs
  have hz := hq _ rfl
  refine Body.intro (rs := [.cell 2 31]) rfl rfl rfl ?_
  apply vc_run 1000 (stop := false) rfl; simp only [push_cast, reduceIte, Nat.reduceEqDiff, Nat.reduceAdd, Nat.reduceSub, Nat.reduceLT, Int.reduceNeg, Int.reduceLE, Int.reduceLT, Int.reduceToNat, Nat.reduceLeDiff, UInt8.reduceOfNat, UInt8.reduceOfNatLT, and_self, Nat.reduceMul, decide_true, decide_false, Bool.not_true, Bool.not_false, implies_true]
  exact hz)
noncomputable def sp_eqDoc : Spec := ⟨[.st .doc, .st .doc], [.rd, .rd], true, fun
  | [.agg [.str m, .dat ⟨.node, ks⟩], .agg [.str m2, .dat ⟨.node, ks2⟩]] => some (some (szL szNd ks ≤ 1048576), .bool (eqB (⟨m, ks⟩ : Docu) ⟨m2, ks2⟩), [])
  | _ => none⟩
@[push_cast] theorem sp_eqDoc_ps : sp_eqDoc.ps = [.st .doc, .st .doc] := rfl
@[push_cast] theorem sp_eqDoc_md : sp_eqDoc.modes = [.rd, .rd] := rfl
@[push_cast] theorem sp_eqDoc_pure : sp_eqDoc.pure = true := rfl
@[push_cast] theorem sp_eqDoc_run (m m2 : Str) (ks ks2 : List Node) : sp_eqDoc.run [.agg [.str m, .dat ⟨.node, ks⟩], .agg [.str m2, .dat ⟨.node, ks2⟩]] = some (some (szL szNd ks ≤ 1048576), .bool (eqB (⟨m, ks⟩ : Docu) ⟨m2, ks2⟩), []) := rfl
noncomputable def e_eqDoc : Env := mk [(21, sp_eqNodeS)] [] []
@[push_cast] theorem e_eqDoc_gh : e_eqDoc.gh = ghOf [] := rfl
@[push_cast] theorem e_eqDoc_dr : e_eqDoc.dr = drOf [] := rfl
@[push_cast] theorem e_eqDoc_td : e_eqDoc.td = td := rfl
@[push_cast] theorem e_eqDoc_eqt : e_eqDoc.eqt = eqt := rfl
@[push_cast] theorem e_eqDoc_cal : e_eqDoc.cal = calOf [(21, sp_eqNodeS)] := rfl
theorem c_eqDoc : CRow P0 ety0 77 sp_eqDoc := CRow.of (E := e_eqDoc) (mkOk (.cons c_eqNodeS (.nil))) func77 rfl rfl rfl (by
  intro args p r outs h hq
  simp only [sp_eqDoc] at h; split at h <;> cases h
  rename_i m m2 ks ks2
  have hz := hq _ rfl
  refine Body.intro (rs := [.tmp 4]) rfl rfl rfl ?_
  apply vc_run 1000 (stop := false) rfl; simp only [push_cast, reduceIte, Nat.reduceEqDiff, Nat.reduceAdd, Nat.reduceSub, Nat.reduceLT, Int.reduceNeg, Int.reduceLE, Int.reduceLT, Int.reduceToNat, Nat.reduceLeDiff, UInt8.reduceOfNat, UInt8.reduceOfNatLT, and_self, Nat.reduceMul, decide_true, decide_false, Bool.not_true, Bool.not_false, implies_true]
  refine ⟨fun h => ?_, fun h1 => ⟨hz, fun h => ?_, fun h2 => ?_⟩⟩
  · rw [eqB_ne]; intro e; cases e; simp at h
  · rw [eqB_ne]; intro e; cases e; exact eqB_yes h rfl
  · simp at h1
    rw [h1, eqB_not h2, eqB_of rfl])
noncomputable def sp_eqDocS : Spec := ⟨[.sl .doc, .sl .doc], [.rd, .rd], true, fun
  | [.dat ⟨.doc, a⟩, .dat ⟨.doc, b⟩] => some (some (szL szDo a ≤ 1048576), .bool (eqB a b), [])
  | _ => none⟩
@[push_cast] theorem sp_eqDocS_ps : sp_eqDocS.ps = [.sl .doc, .sl .doc] := rfl
@[push_cast] theorem sp_eqDocS_md : sp_eqDocS.modes = [.rd, .rd] := rfl
@[push_cast] theorem sp_eqDocS_pure : sp_eqDocS.pure = true := rfl
@[push_cast] theorem sp_eqDocS_run (a b : List Docu) : sp_eqDocS.run [.dat ⟨.doc, a⟩, .dat ⟨.doc, b⟩] = some (some (szL szDo a ≤ 1048576), .bool (eqB a b), []) := rfl
noncomputable def e_eqDocS : Env := mk [(77, sp_eqDoc)] [(6, [], [])] []
@[push_cast] theorem e_eqDocS_gh : e_eqDocS.gh = ghOf [] := rfl
@[push_cast] theorem e_eqDocS_dr : e_eqDocS.dr = drOf [(6, [], [])] := rfl
@[push_cast] theorem e_eqDocS_td : e_eqDocS.td = td := rfl
@[push_cast] theorem e_eqDocS_eqt : e_eqDocS.eqt = eqt := rfl
@[push_cast] theorem e_eqDocS_cal : e_eqDocS.cal = calOf [(77, sp_eqDoc)] := rfl
theorem c_eqDocS : CRow P0 ety0 37 sp_eqDocS := CRow.of (E := e_eqDocS) (mkOk (.cons c_eqDoc (.nil))) func37 rfl rfl rfl (by
  intro args p r outs h hq
  simp only [sp_eqDocS] at h; split at h <;> cases h
  rename_i a b
  have hz := hq _ rfl
  have hl : a.length ≤ 1048576 := Nat.le_trans (szL_len _ _) hz
  refine Body.intro (rs := [.tmp 4]) rfl rfl rfl ?_
  apply vc_run 1000 (stop := false) rfl; simp only [push_cast, reduceIte, Nat.reduceEqDiff, Nat.reduceAdd, Nat.reduceSub, Nat.reduceLT, Int.reduceNeg, Int.reduceLE, Int.reduceLT, Int.reduceToNat, Nat.reduceLeDiff, UInt8.reduceOfNat, UInt8.reduceOfNatLT, and_self, Nat.reduceMul, decide_true, decide_false, Bool.not_true, Bool.not_false, implies_true]
  refine ⟨fun h => ?_, fun h => ?_⟩
  · rw [eqB_ne]; intro e; subst e; simp at h
  have h : a.length = b.length := by simp at h; omega
  refine Run.loop [5] [0, 1] [] rfl (fun m vs bs => ∃ k : Nat, vs = [.int .i64 k] ∧ bs = [] ∧ k ≤ a.length ∧ (∀ j < k, a.getD j docD = b.getD j docD) ∧ m = a.length - k) a.length ?_ ?_
  · simp only [push_cast, reduceIte, Nat.reduceEqDiff, Nat.reduceAdd, Nat.reduceSub, Nat.reduceLT, Int.reduceNeg, Int.reduceLE, Int.reduceLT, Int.reduceToNat, Nat.reduceLeDiff, UInt8.reduceOfNat, UInt8.reduceOfNatLT, and_self, Nat.reduceMul, decide_true, decide_false, Bool.not_true, Bool.not_false, implies_true]
    exact ⟨0, by simp, by omega, by simp, by omega⟩
  rintro m vs bs ⟨k, rfl, rfl, hk, hb, rfl⟩
  simp only [push_cast, reduceIte, Nat.reduceEqDiff, Nat.reduceAdd, Nat.reduceSub, Nat.reduceLT, Int.reduceNeg, Int.reduceLE, Int.reduceLT, Int.reduceToNat, Nat.reduceLeDiff, UInt8.reduceOfNat, UInt8.reduceOfNatLT, and_self, Nat.reduceMul, decide_true, decide_false, Bool.not_true, Bool.not_false, implies_true]
  apply vc_run 1000 (stop := false) rfl; simp only [push_cast, reduceIte, Nat.reduceEqDiff, Nat.reduceAdd, Nat.reduceSub, Nat.reduceLT, Int.reduceNeg, Int.reduceLE, Int.reduceLT, Int.reduceToNat, Nat.reduceLeDiff, UInt8.reduceOfNat, UInt8.reduceOfNatLT, and_self, Nat.reduceMul, decide_true, decide_false, Bool.not_true, Bool.not_false, implies_true]
  refine ⟨fun hlt => ?_, fun hge => ?_⟩
  · have hlt : k < a.length := by simpa using hlt
    have hel : szDo (a.getD k docD) ≤ 1048576 := Nat.le_trans (szL_at _ _ hlt) hz
    simp only [gd_nat]
    refine ⟨by omega, by omega, (by simp only [szDo] at hel; omega), fun hne => ?_, fun heq => ⟨by constructor <;> omega, _, by omega, k + 1, rfl, by omega, fun j hj => ?_, rfl⟩⟩
    · rw [eqB_ne]; intro e; subst e; first | (simp at hne; done) | exact absurd hne (by simp [eqB_self])
    · rcases Nat.lt_or_eq_of_le (Nat.le_of_lt_succ hj) with h | rfl
      · exact hb j h
      · first | exact eqB_not heq | (simpa using heq; done) | exact eqK (eqB_not heq)
  · have hge : k = a.length := by simp at hge; omega
    subst hge
    rw [eqB_of (list_eq docD h hb)])
noncomputable def sp_eqConfigS : Spec := ⟨[.sl .cfg, .sl .cfg], [.rd, .rd], true, fun
  | [.dat ⟨.cfg, a⟩, .dat ⟨.cfg, b⟩] => some (some (szL szCfg a ≤ 1048576), .bool (eqB a b), [])
  | _ => none⟩
@[push_cast] theorem sp_eqConfigS_ps : sp_eqConfigS.ps = [.sl .cfg, .sl .cfg] := rfl
@[push_cast] theorem sp_eqConfigS_md : sp_eqConfigS.modes = [.rd, .rd] := rfl
@[push_cast] theorem sp_eqConfigS_pure : sp_eqConfigS.pure = true := rfl
@[push_cast] theorem sp_eqConfigS_run (a b : List Cfg) : sp_eqConfigS.run [.dat ⟨.cfg, a⟩, .dat ⟨.cfg, b⟩] = some (some (szL szCfg a ≤ 1048576), .bool (eqB a b), []) := rfl
noncomputable def e_eqConfigS : Env := mk [(22, sp_eqConfig)] [(6, [], [])] []
@[push_cast] theorem e_eqConfigS_gh : e_eqConfigS.gh = ghOf [] := rfl
@[push_cast] theorem e_eqConfigS_dr : e_eqConfigS.dr = drOf [(6, [], [])] := rfl
@[push_cast] theorem e_eqConfigS_td : e_eqConfigS.td = td := rfl
@[push_cast] theorem e_eqConfigS_eqt : e_eqConfigS.eqt = eqt := rfl
@[push_cast] theorem e_eqConfigS_cal : e_eqConfigS.cal = calOf [(22, sp_eqConfig)] := rfl
theorem c_eqConfigS : CRow P0 ety0 38 sp_eqConfigS := CRow.of (E := e_eqConfigS) (mkOk (.cons c_eqConfig (.nil))) func38 rfl rfl rfl (by
  intro args p r outs h hq
  simp only [sp_eqConfigS] at h; split at h <;> cases h
  rename_i a b
  have hz := hq _ rfl
  have hl : a.length ≤ 1048576 := Nat.le_trans (szL_len _ _) hz
  refine Body.intro (rs := [.tmp 4]) rfl rfl rfl ?_
  apply vc_run 1000 (stop := false) rfl; simp only [push_cast, reduceIte, Nat.reduceEqDiff, Nat.reduceAdd, Nat.reduceSub, Nat.reduceLT, Int.reduceNeg, Int.reduceLE, Int.reduceLT, Int.reduceToNat, Nat.reduceLeDiff, UInt8.reduceOfNat, UInt8.reduceOfNatLT, and_self, Nat.reduceMul, decide_true, decide_false, Bool.not_true, Bool.not_false, implies_true]
  refine ⟨fun h => ?_, fun h => ?_⟩
  · rw [eqB_ne]; intro e; subst e; simp at h
  have h : a.length = b.length := by simp at h; omega
  refine Run.loop [5] [0, 1] [] rfl (fun m vs bs => ∃ k : Nat, vs = [.int .i64 k] ∧ bs = [] ∧ k ≤ a.length ∧ (∀ j < k, a.getD j cfgD = b.getD j cfgD) ∧ m = a.length - k) a.length ?_ ?_
  · simp only [push_cast, reduceIte, Nat.reduceEqDiff, Nat.reduceAdd, Nat.reduceSub, Nat.reduceLT, Int.reduceNeg, Int.reduceLE, Int.reduceLT, Int.reduceToNat, Nat.reduceLeDiff, UInt8.reduceOfNat, UInt8.reduceOfNatLT, and_self, Nat.reduceMul, decide_true, decide_false, Bool.not_true, Bool.not_false, implies_true]
    exact ⟨0, by simp, by omega, by simp, by omega⟩
  rintro m vs bs ⟨k, rfl, rfl, hk, hb, rfl⟩
  simp only [push_cast, reduceIte, Nat.reduceEqDiff, Nat.reduceAdd, Nat.reduceSub, Nat.reduceLT, Int.reduceNeg, Int.reduceLE, Int.reduceLT, Int.reduceToNat, Nat.reduceLeDiff, UInt8.reduceOfNat, UInt8.reduceOfNatLT, and_self, Nat.reduceMul, decide_true, decide_false, Bool.not_true, Bool.not_false, implies_true]
  apply vc_run 1000 (stop := false) rfl; simp only [push_cast, reduceIte, Nat.reduceEqDiff, Nat.reduceAdd, Nat.reduceSub, Nat.reduceLT, Int.reduceNeg, Int.reduceLE, Int.reduceLT, Int.reduceToNat, Nat.reduceLeDiff, UInt8.reduceOfNat, UInt8.reduceOfNatLT, and_self, Nat.reduceMul, decide_true, decide_false, Bool.not_true, Bool.not_false, implies_true]
  refine ⟨fun hlt => ?_, fun hge => ?_⟩
  · have hlt : k < a.length := by simpa using hlt
    have hel : szCfg (a.getD k cfgD) ≤ 1048576 := Nat.le_trans (szL_at _ _ hlt) hz
    simp only [gd_nat]
    refine ⟨by omega, by omega, hel, fun hne => ?_, fun heq => ⟨by constructor <;> omega, _, by omega, k + 1, rfl, by omega, fun j hj => ?_, rfl⟩⟩
    · rw [eqB_ne]; intro e; subst e; first | (simp at hne; done) | exact absurd hne (by simp [eqB_self])
    · rcases Nat.lt_or_eq_of_le (Nat.le_of_lt_succ hj) with h | rfl
      · exact hb j h
      · first | exact eqB_not heq | (simpa using heq; done) | exact eqK (eqB_not heq)
  · have hge : k = a.length := by simp at hge; omega
    subst hge
    rw [eqB_of (list_eq cfgD h hb)])
noncomputable def sp_eqHouse : Spec := ⟨[.sc, .sc], [.rd, .rd], true, fun
  | [.agg [.dat ⟨.doc, ds⟩, .dat ⟨.cfg, cs⟩], .agg [.dat ⟨.doc, ds2⟩, .dat ⟨.cfg, cs2⟩]] => some (some (szL szDo ds ≤ 1048576 ∧ szL szCfg cs ≤ 1048576), .bool (eqB ds ds2 && eqB cs cs2), [])
  | _ => none⟩
@[push_cast] theorem sp_eqHouse_ps : sp_eqHouse.ps = [.sc, .sc] := rfl
@[push_cast] theorem sp_eqHouse_md : sp_eqHouse.modes = [.rd, .rd] := rfl
@[push_cast] theorem sp_eqHouse_pure : sp_eqHouse.pure = true := rfl
@[push_cast] theorem sp_eqHouse_run (ds ds2 : List Docu) (cs cs2 : List Cfg) : sp_eqHouse.run [.agg [.dat ⟨.doc, ds⟩, .dat ⟨.cfg, cs⟩], .agg [.dat ⟨.doc, ds2⟩, .dat ⟨.cfg, cs2⟩]] = some (some (szL szDo ds ≤ 1048576 ∧ szL szCfg cs ≤ 1048576), .bool (eqB ds ds2 && eqB cs cs2), []) := rfl
noncomputable def e_eqHouse : Env := mk [(37, sp_eqDocS), (38, sp_eqConfigS)] [] []
@[push_cast] theorem e_eqHouse_gh : e_eqHouse.gh = ghOf [] := rfl
@[push_cast] theorem e_eqHouse_dr : e_eqHouse.dr = drOf [] := rfl
@[push_cast] theorem e_eqHouse_td : e_eqHouse.td = td := rfl
@[push_cast] theorem e_eqHouse_eqt : e_eqHouse.eqt = eqt := rfl
@[push_cast] theorem e_eqHouse_cal : e_eqHouse.cal = calOf [(37, sp_eqDocS), (38, sp_eqConfigS)] := rfl
theorem c_eqHouse : CRow P0 ety0 12 sp_eqHouse := CRow.of (E := e_eqHouse) (mkOk (.cons c_eqDocS (.cons c_eqConfigS (.nil)))) func12 rfl rfl rfl (by
  intro args p r outs h hq
  simp only [sp_eqHouse] at h; split at h <;> cases h
  rename_i ds cs ds2 cs2
  obtain ⟨hz1, hz2⟩ := hq _ rfl
  refine Body.intro (rs := [.tmp 4]) rfl rfl rfl ?_
  apply vc_run 1000 (stop := false) rfl; simp only [push_cast, reduceIte, Nat.reduceEqDiff, Nat.reduceAdd, Nat.reduceSub, Nat.reduceLT, Int.reduceNeg, Int.reduceLE, Int.reduceLT, Int.reduceToNat, Nat.reduceLeDiff, UInt8.reduceOfNat, UInt8.reduceOfNatLT, and_self, Nat.reduceMul, decide_true, decide_false, Bool.not_true, Bool.not_false, implies_true]
  generalize eqB ds ds2 = b1; generalize eqB cs cs2 = b2
  cases b1 <;> cases b2 <;> simp [hz1, hz2])
def mayB (m : Str) (ks : List Node) : Bool := treeOK ks && (!isVoidS m || ks.isEmpty) && (!isRawS m || !ks.any notText)
noncomputable def sp_mayB : Spec := ⟨[.st .doc, .sl .node], [.rd, .rd], true, fun
  | [.agg [.str m, .dat ⟨.node, k0⟩], .dat ⟨.node, ks⟩] => some (some (szL szNd ks ≤ 1048576), .bool (mayB m ks), [])
  | _ => none⟩
@[push_cast] theorem sp_mayB_ps : sp_mayB.ps = [.st .doc, .sl .node] := rfl
@[push_cast] theorem sp_mayB_md : sp_mayB.modes = [.rd, .rd] := rfl
@[push_cast] theorem sp_mayB_pure : sp_mayB.pure = true := rfl
@[push_cast] theorem sp_mayB_run (m : Str) (k0 ks : List Node) : sp_mayB.run [.agg [.str m, .dat ⟨.node, k0⟩], .dat ⟨.node, ks⟩] = some (some (szL szNd ks ≤ 1048576), .bool (mayB m ks), []) := rfl
noncomputable def e_mayB : Env := mk [(68, sp_treeOK), (69, sp_isVoidS), (70, sp_isRawS), (71, sp_isTexts)] [] []
@[push_cast] theorem e_mayB_gh : e_mayB.gh = ghOf [] := rfl
@[push_cast] theorem e_mayB_dr : e_mayB.dr = drOf [] := rfl
@[push_cast] theorem e_mayB_td : e_mayB.td = td := rfl
@[push_cast] theorem e_mayB_eqt : e_mayB.eqt = eqt := rfl
@[push_cast] theorem e_mayB_cal : e_mayB.cal = calOf [(68, sp_treeOK), (69, sp_isVoidS), (70, sp_isRawS), (71, sp_isTexts)] := rfl
theorem c_mayB : CRow P0 ety0 33 sp_mayB := CRow.of (E := e_mayB) (mkOk (.cons c_treeOK (.cons c_isVoidS (.cons c_isRawS (.cons c_isTexts (.nil)))))) func33 rfl rfl rfl (by
  intro args p r outs h hq
  simp only [sp_mayB] at h; split at h <;> cases h
  rename_i m k0 ks
  have hz := hq _ rfl
  refine Body.intro (rs := [.tmp 4]) rfl rfl rfl ?_
  apply vc_run 1000 (stop := false) rfl; simp only [push_cast, reduceIte, Nat.reduceEqDiff, Nat.reduceAdd, Nat.reduceSub, Nat.reduceLT, Int.reduceNeg, Int.reduceLE, Int.reduceLT, Int.reduceToNat, Nat.reduceLeDiff, UInt8.reduceOfNat, UInt8.reduceOfNatLT, and_self, Nat.reduceMul, decide_true, decide_false, Bool.not_true, Bool.not_false, implies_true]
  simp only [len_e]
  have hk := szL_len szNd ks
  refine ⟨hz, fun _ => by omega, ?_⟩
  rw [mayB]
  generalize treeOK ks = b2; generalize isVoidS m = b3; generalize isRawS m = b4; generalize ks.isEmpty = b5; generalize ks.any notText = b6
  cases b2 <;> cases b3 <;> cases b4 <;> cases b5 <;> cases b6 <;> rfl)
def notCfg (c : Cfg) : Bool := !decide (checkCfg c = 0)
noncomputable def sp_notCfg : Spec := ⟨[.st .cfg], [.rd], true, fun
  | [.agg [.bool ha, .bool ht, .dat ⟨.rule, al⟩, .dat ⟨.rule, re⟩, .dat ⟨.rule, un⟩, .dat ⟨.str, ns⟩, .dat ⟨.str, dr⟩, .bool co, .bool da]] => some (some (szCfg ⟨ha, ht, al, re, un, ns, dr, co, da⟩ ≤ 1048576), .bool (notCfg ⟨ha, ht, al, re, un, ns, dr, co, da⟩), [])
  | _ => none⟩
@[push_cast] theorem sp_notCfg_ps : sp_notCfg.ps = [.st .cfg] := rfl
@[push_cast] theorem sp_notCfg_md : sp_notCfg.modes = [.rd] := rfl
@[push_cast] theorem sp_notCfg_pure : sp_notCfg.pure = true := rfl
@[push_cast] theorem sp_notCfg_run (ha ht : Bool) (al re un : List Rule) (ns dr : List Str) (co da : Bool) : sp_notCfg.run [.agg [.bool ha, .bool ht, .dat ⟨.rule, al⟩, .dat ⟨.rule, re⟩, .dat ⟨.rule, un⟩, .dat ⟨.str, ns⟩, .dat ⟨.str, dr⟩, .bool co, .bool da]] = some (some (szCfg ⟨ha, ht, al, re, un, ns, dr, co, da⟩ ≤ 1048576), .bool (notCfg ⟨ha, ht, al, re, un, ns, dr, co, da⟩), []) := rfl
noncomputable def e_notCfg : Env := mk [(36, sp_checkCfg)] [] []
@[push_cast] theorem e_notCfg_gh : e_notCfg.gh = ghOf [] := rfl
@[push_cast] theorem e_notCfg_dr : e_notCfg.dr = drOf [] := rfl
@[push_cast] theorem e_notCfg_td : e_notCfg.td = td := rfl
@[push_cast] theorem e_notCfg_eqt : e_notCfg.eqt = eqt := rfl
@[push_cast] theorem e_notCfg_cal : e_notCfg.cal = calOf [(36, sp_checkCfg)] := rfl
theorem c_notCfg : CRow P0 ety0 35 sp_notCfg := CRow.of (E := e_notCfg) (mkOk (.cons c_checkCfg (.nil))) func35 rfl rfl rfl (by
  intro args p r outs h hq
  simp only [sp_notCfg] at h; split at h <;> cases h
  rename_i ha ht al re un ns dr co da
  have hz := hq _ rfl
  refine Body.intro (rs := [.tmp 2]) rfl rfl rfl ?_
  apply vc_run 1000 (stop := false) rfl; simp only [push_cast, reduceIte, Nat.reduceEqDiff, Nat.reduceAdd, Nat.reduceSub, Nat.reduceLT, Int.reduceNeg, Int.reduceLE, Int.reduceLT, Int.reduceToNat, Nat.reduceLeDiff, UInt8.reduceOfNat, UInt8.reduceOfNatLT, and_self, Nat.reduceMul, decide_true, decide_false, Bool.not_true, Bool.not_false, implies_true]
  exact ⟨hz, rfl⟩)
noncomputable def sp_idxCfgA : Spec := ⟨[.sl .cfg, .sc], [.rd, .rd], true, fun
  | [.dat ⟨.cfg, l⟩, .fn 35 [] []] => some (some (l.length ≤ 1073741824 ∧ ∀ c ∈ l, szCfg c ≤ 1048576), .int .i64 (idx (l.findIdx? (notCfg))), [])
  | _ => none⟩
@[push_cast] theorem sp_idxCfgA_ps : sp_idxCfgA.ps = [.sl .cfg, .sc] := rfl
@[push_cast] theorem sp_idxCfgA_md : sp_idxCfgA.modes = [.rd, .rd] := rfl
@[push_cast] theorem sp_idxCfgA_pure : sp_idxCfgA.pure = true := rfl
@[push_cast] theorem sp_idxCfgA_run (l : List Cfg) : sp_idxCfgA.run [.dat ⟨.cfg, l⟩, .fn 35 [] []] = some (some (l.length ≤ 1073741824 ∧ ∀ c ∈ l, szCfg c ≤ 1048576), .int .i64 (idx (l.findIdx? (notCfg))), []) := rfl
noncomputable def e_idxCfgA : Env := mk [(35, sp_notCfg)] [] []
@[push_cast] theorem e_idxCfgA_gh : e_idxCfgA.gh = ghOf [] := rfl
@[push_cast] theorem e_idxCfgA_dr : e_idxCfgA.dr = drOf [] := rfl
@[push_cast] theorem e_idxCfgA_td : e_idxCfgA.td = td := rfl
@[push_cast] theorem e_idxCfgA_eqt : e_idxCfgA.eqt = eqt := rfl
@[push_cast] theorem e_idxCfgA_cal : e_idxCfgA.cal = calOf [(35, sp_notCfg)] := rfl
theorem c_idxCfgA : CRow P0 ety0 72 sp_idxCfgA := CRow.of (E := e_idxCfgA) (mkOk (.cons c_notCfg (.nil))) func72 rfl rfl rfl (by
  intro args p r outs h hq
  simp only [sp_idxCfgA] at h; split at h <;> cases h
  rename_i l 
  have hq0 := hq _ rfl
  have hl : l.length ≤ 1073741824 := by first | exact hq0 | exact hq0.1
  refine Body.intro (rs := [.tmp 4]) rfl rfl rfl ?_
  apply vc_run 1000 (stop := false) rfl; simp only [push_cast, reduceIte, Nat.reduceEqDiff, Nat.reduceAdd, Nat.reduceSub, Nat.reduceLT, Int.reduceNeg, Int.reduceLE, Int.reduceLT, Int.reduceToNat, Nat.reduceLeDiff, UInt8.reduceOfNat, UInt8.reduceOfNatLT, and_self, Nat.reduceMul, decide_true, decide_false, Bool.not_true, Bool.not_false, implies_true]
  refine Run.loop [8] [0, 1, 6, 7] [] rfl (fun n vs bs => ∃ k : Nat, vs = [.int .i64 k] ∧ bs = [] ∧ k ≤ l.length ∧ (∀ j < k, (notCfg) (l.getD j cfgD) = false) ∧ n = l.length - k) l.length ?_ ?_
  · simp only [push_cast, reduceIte, Nat.reduceEqDiff, Nat.reduceAdd, Nat.reduceSub, Nat.reduceLT, Int.reduceNeg, Int.reduceLE, Int.reduceLT, Int.reduceToNat, Nat.reduceLeDiff, UInt8.reduceOfNat, UInt8.reduceOfNatLT, and_self, Nat.reduceMul, decide_true, decide_false, Bool.not_true, Bool.not_false, implies_true]
    exact ⟨0, rfl, by omega, by simp, by omega⟩
  rintro n vs bs ⟨k, rfl, rfl, hk, hb, rfl⟩
  simp only [push_cast, reduceIte, Nat.reduceEqDiff, Nat.reduceAdd, Nat.reduceSub, Nat.reduceLT, Int.reduceNeg, Int.reduceLE, Int.reduceLT, Int.reduceToNat, Nat.reduceLeDiff, UInt8.reduceOfNat, UInt8.reduceOfNatLT, and_self, Nat.reduceMul, decide_true, decide_false, Bool.not_true, Bool.not_false, implies_true]
  apply vc_run 1000 (stop := false) rfl; simp only [push_cast, reduceIte, Nat.reduceEqDiff, Nat.reduceAdd, Nat.reduceSub, Nat.reduceLT, Int.reduceNeg, Int.reduceLE, Int.reduceLT, Int.reduceToNat, Nat.reduceLeDiff, UInt8.reduceOfNat, UInt8.reduceOfNatLT, and_self, Nat.reduceMul, decide_true, decide_false, Bool.not_true, Bool.not_false, implies_true]
  refine ⟨fun hlt => ?_, fun hge => ?_⟩
  · have hlt : k < l.length := by simpa using hlt
    simp only [gd_nat]
    refine ⟨by omega, fit_at hq0.2 hlt, fun hy => ?_, fun hn => ⟨by constructor <;> omega, _, by omega, k + 1, rfl, by omega, below_step hb hn, rfl⟩⟩
    rw [findIdx_at (p := notCfg) hlt hb hy]; rfl
  · have hge : k = l.length := by simp at hge; omega
    subst hge
    rw [findIdx_none (p := notCfg) hb]; rfl)
noncomputable def sp_conCfgA : Spec := ⟨[.sl .cfg, .sc], [.rd, .rd], true, fun
  | [.dat ⟨.cfg, l⟩, .fn 35 [] []] => some (some (l.length ≤ 1073741824 ∧ ∀ c ∈ l, szCfg c ≤ 1048576), .bool (l.any (notCfg)), [])
  | _ => none⟩
@[push_cast] theorem sp_conCfgA_ps : sp_conCfgA.ps = [.sl .cfg, .sc] := rfl
@[push_cast] theorem sp_conCfgA_md : sp_conCfgA.modes = [.rd, .rd] := rfl
@[push_cast] theorem sp_conCfgA_pure : sp_conCfgA.pure = true := rfl
@[push_cast] theorem sp_conCfgA_run (l : List Cfg) : sp_conCfgA.run [.dat ⟨.cfg, l⟩, .fn 35 [] []] = some (some (l.length ≤ 1073741824 ∧ ∀ c ∈ l, szCfg c ≤ 1048576), .bool (l.any (notCfg)), []) := rfl
noncomputable def e_conCfgA : Env := mk [(72, sp_idxCfgA)] [] []
@[push_cast] theorem e_conCfgA_gh : e_conCfgA.gh = ghOf [] := rfl
@[push_cast] theorem e_conCfgA_dr : e_conCfgA.dr = drOf [] := rfl
@[push_cast] theorem e_conCfgA_td : e_conCfgA.td = td := rfl
@[push_cast] theorem e_conCfgA_eqt : e_conCfgA.eqt = eqt := rfl
@[push_cast] theorem e_conCfgA_cal : e_conCfgA.cal = calOf [(72, sp_idxCfgA)] := rfl
theorem c_conCfgA : CRow P0 ety0 34 sp_conCfgA := CRow.of (E := e_conCfgA) (mkOk (.cons c_idxCfgA (.nil))) func34 rfl rfl rfl (by
  intro args p r outs h hq
  simp only [sp_conCfgA] at h; split at h <;> cases h
  rename_i l 
  have hq0 := hq _ rfl
  refine Body.intro (rs := [.tmp 4]) rfl rfl rfl ?_
  apply vc_run 1000 (stop := false) rfl; simp only [push_cast, reduceIte, Nat.reduceEqDiff, Nat.reduceAdd, Nat.reduceSub, Nat.reduceLT, Int.reduceNeg, Int.reduceLE, Int.reduceLT, Int.reduceToNat, Nat.reduceLeDiff, UInt8.reduceOfNat, UInt8.reduceOfNatLT, and_self, Nat.reduceMul, decide_true, decide_false, Bool.not_true, Bool.not_false, implies_true]
  exact ⟨hq0, by rw [idx_any]⟩)
theorem all_at_no {α : Type} {l : List α} {d : α} {p : α → Bool} {j : Nat} (h : j < l.length) (hy : p (l.getD j d) = false) : l.all p = false := by
  rw [List.all_eq_false]
  have e : l.getD j d = l[j] := by simp [List.getD, h]
  exact ⟨l[j], List.getElem_mem h, by rw [← e, hy]; simp⟩
theorem all_at_yes {α : Type} {l : List α} {d : α} {p : α → Bool} (h : ∀ j < l.length, p (l.getD j d) = true) : l.all p = true := by
  rw [List.all_eq_true]
  intro x hx
  obtain ⟨i, hi, rfl⟩ := List.getElem_of_mem hx
  have e : l.getD i d = l[i] := by simp [List.getD, hi]
  rw [← e]; exact h i hi
def docOK (d : Docu) : Bool := tagOK d.name && mayB d.name d.kids
def houseOK (ds : List Docu) (cs : List Cfg) : Bool := decide (ds.length ≤ 6) && decide (cs.length ≤ 4) && ds.all docOK && !cs.any notCfg
noncomputable def sp_houseOK : Spec := ⟨[.sc], [.rd], true, fun
  | [.agg [.dat ⟨.doc, ds⟩, .dat ⟨.cfg, cs⟩]] => some (some (szL szDo ds ≤ 1048576 ∧ szL szCfg cs ≤ 1048576), .bool (houseOK ds cs), [])
  | _ => none⟩
@[push_cast] theorem sp_houseOK_ps : sp_houseOK.ps = [.sc] := rfl
@[push_cast] theorem sp_houseOK_md : sp_houseOK.modes = [.rd] := rfl
@[push_cast] theorem sp_houseOK_pure : sp_houseOK.pure = true := rfl
@[push_cast] theorem sp_houseOK_run (ds : List Docu) (cs : List Cfg) : sp_houseOK.run [.agg [.dat ⟨.doc, ds⟩, .dat ⟨.cfg, cs⟩]] = some (some (szL szDo ds ≤ 1048576 ∧ szL szCfg cs ≤ 1048576), .bool (houseOK ds cs), []) := rfl
noncomputable def e_houseOK : Env := mk [(32, sp_tagOK), (33, sp_mayB), (34, sp_conCfgA)] [] []
@[push_cast] theorem e_houseOK_gh : e_houseOK.gh = ghOf [] := rfl
@[push_cast] theorem e_houseOK_dr : e_houseOK.dr = drOf [] := rfl
@[push_cast] theorem e_houseOK_td : e_houseOK.td = td := rfl
@[push_cast] theorem e_houseOK_eqt : e_houseOK.eqt = eqt := rfl
@[push_cast] theorem e_houseOK_cal : e_houseOK.cal = calOf [(32, sp_tagOK), (33, sp_mayB), (34, sp_conCfgA)] := rfl
theorem c_houseOK : CRow P0 ety0 11 sp_houseOK := CRow.of (E := e_houseOK) (mkOk (.cons c_tagOK (.cons c_mayB (.cons c_conCfgA (.nil))))) func11 rfl rfl rfl (by
  intro args p r outs h hq
  simp only [sp_houseOK] at h; split at h <;> cases h
  rename_i ds cs
  obtain ⟨hz1, hz2⟩ := hq _ rfl
  refine Body.intro (rs := [.tmp 2]) rfl rfl rfl ?_
  apply vc_run 1000 (stop := false) rfl; simp only [push_cast, reduceIte, Nat.reduceEqDiff, Nat.reduceAdd, Nat.reduceSub, Nat.reduceLT, Int.reduceNeg, Int.reduceLE, Int.reduceLT, Int.reduceToNat, Nat.reduceLeDiff, UInt8.reduceOfNat, UInt8.reduceOfNatLT, and_self, Nat.reduceMul, decide_true, decide_false, Bool.not_true, Bool.not_false, implies_true]
  have e6 : decide ((6 : Int) < (ds.length : Nat)) = !decide (ds.length ≤ 6) := len_gt (n := 6)
  have e4 : decide ((4 : Int) < (cs.length : Nat)) = !decide (cs.length ≤ 4) := len_gt (n := 4)
  simp only [e6, e4]
  refine ⟨fun h => ?_, fun h => ?_⟩
  · rw [houseOK]; revert h
    generalize decide (ds.length ≤ 6) = b1; generalize decide (cs.length ≤ 4) = b2
    cases b1 <;> cases b2 <;> simp
  have h6 : decide (ds.length ≤ 6) = true := by revert h; generalize decide (ds.length ≤ 6) = b1; generalize decide (cs.length ≤ 4) = b2; cases b1 <;> cases b2 <;> simp
  have h4 : decide (cs.length ≤ 4) = true := by revert h; generalize decide (ds.length ≤ 6) = b1; generalize decide (cs.length ≤ 4) = b2; cases b1 <;> cases b2 <;> simp
  have hl : ds.length ≤ 6 := of_decide_eq_true h6
  have hl4 : cs.length ≤ 4 := of_decide_eq_true h4
  have hcs : ∀ c ∈ cs, szCfg c ≤ 1048576 := fun c hc => Nat.le_trans (szL_mem szCfg hc) hz2
  refine Run.loop [18] [1, 16, 17] [0] rfl (fun n vs bs => ∃ j : Nat, vs = [.int .i64 j] ∧ bs = [[.dat ⟨.doc, ds⟩, .dat ⟨.cfg, cs⟩]] ∧ j ≤ ds.length ∧ (∀ i < j, (!docOK (ds.getD i docD)) = false) ∧ n = ds.length - j) ds.length ?_ ?_
  · simp only [push_cast, reduceIte, Nat.reduceEqDiff, Nat.reduceAdd, Nat.reduceSub, Nat.reduceLT, Int.reduceNeg, Int.reduceLE, Int.reduceLT, Int.reduceToNat, Nat.reduceLeDiff, UInt8.reduceOfNat, UInt8.reduceOfNatLT, and_self, Nat.reduceMul, decide_true, decide_false, Bool.not_true, Bool.not_false, implies_true]
    exact ⟨0, rfl, by omega, by simp, by omega⟩
  rintro n vs bs ⟨j, rfl, rfl, hj, hb, rfl⟩
  simp only [push_cast, reduceIte, Nat.reduceEqDiff, Nat.reduceAdd, Nat.reduceSub, Nat.reduceLT, Int.reduceNeg, Int.reduceLE, Int.reduceLT, Int.reduceToNat, Nat.reduceLeDiff, UInt8.reduceOfNat, UInt8.reduceOfNatLT, and_self, Nat.reduceMul, decide_true, decide_false, Bool.not_true, Bool.not_false, implies_true]
  apply vc_run 1000 (stop := false) rfl; simp only [push_cast, reduceIte, Nat.reduceEqDiff, Nat.reduceAdd, Nat.reduceSub, Nat.reduceLT, Int.reduceNeg, Int.reduceLE, Int.reduceLT, Int.reduceToNat, Nat.reduceLeDiff, UInt8.reduceOfNat, UInt8.reduceOfNatLT, and_self, Nat.reduceMul, decide_true, decide_false, Bool.not_true, Bool.not_false, implies_true]
  refine ⟨fun hlt => ?_, fun hge => ?_⟩
  · have hlt : j < ds.length := Int.ofNat_lt.1 (of_decide_eq_true hlt)
    have hel := szL_at szDo docD hlt
    have hel2 : szDo (ds.getD j docD) = (ds.getD j docD).name.length + szL szNd (ds.getD j docD).kids := rfl
    simp only [gd_nat]
    have ed : docOK (ds.getD j docD) = (tagOK (ds.getD j docD).name && mayB (ds.getD j docD).name (ds.getD j docD).kids) := rfl
    refine ⟨by omega, by omega, fun _ => by omega, fun hy => ?_, fun hy => ⟨by constructor <;> omega, _, by omega, j + 1, rfl, by omega, below_step hb ?_, rfl⟩⟩
    · have hy : docOK (ds.getD j docD) = false := by
        rw [ed]; revert hy
        generalize tagOK (ds.getD j docD).name = b1; generalize mayB (ds.getD j docD).name (ds.getD j docD).kids = b2
        cases b1 <;> cases b2 <;> simp
      rw [houseOK, all_at_no hlt hy, Bool.and_false, Bool.false_and]
    · rw [ed]; revert hy
      generalize tagOK (ds.getD j docD).name = b1; generalize mayB (ds.getD j docD).name (ds.getD j docD).kids = b2
      cases b1 <;> cases b2 <;> simp
  · have hge : j = ds.length := by have := of_decide_eq_false hge; omega
    subst hge
    have : ds.all docOK = true := all_at_yes (d := docD) (fun i hi => by simpa using hb i hi)
    refine ⟨⟨by omega, hcs⟩, ?_⟩
    rw [houseOK, h6, h4, this]; rfl)
noncomputable def sp_docOK : Spec := ⟨[.st .doc], [.rd], true, fun
  | [.agg [.str m, .dat ⟨.node, ks⟩]] => some (some (szDo ⟨m, ks⟩ ≤ 1048576), .bool (docOK ⟨m, ks⟩), [])
  | _ => none⟩
@[push_cast] theorem sp_docOK_ps : sp_docOK.ps = [.st .doc] := rfl
@[push_cast] theorem sp_docOK_md : sp_docOK.modes = [.rd] := rfl
@[push_cast] theorem sp_docOK_pure : sp_docOK.pure = true := rfl
@[push_cast] theorem sp_docOK_run (m : Str) (ks : List Node) : sp_docOK.run [.agg [.str m, .dat ⟨.node, ks⟩]] = some (some (szDo ⟨m, ks⟩ ≤ 1048576), .bool (docOK ⟨m, ks⟩), []) := rfl
noncomputable def e_docOK2 : Env := mk [(105, sp_tagOK), (106, sp_treeOK), (107, sp_holdsNd)] [] []
@[push_cast] theorem e_docOK2_gh : e_docOK2.gh = ghOf [] := rfl
@[push_cast] theorem e_docOK2_dr : e_docOK2.dr = drOf [] := rfl
@[push_cast] theorem e_docOK2_td : e_docOK2.td = td := rfl
@[push_cast] theorem e_docOK2_eqt : e_docOK2.eqt = eqt := rfl
@[push_cast] theorem e_docOK2_cal : e_docOK2.cal = calOf [(105, sp_tagOK), (106, sp_treeOK), (107, sp_holdsNd)] := rfl
theorem c_docOK2 : CRow P0 ety0 63 sp_docOK := CRow.of (E := e_docOK2) (mkOk (.cons c_tagOK2 (.cons c_treeOK2 (.cons c_holdsNd (.nil))))) func63 rfl rfl rfl (by
  intro args p r outs h hq
  simp only [sp_docOK] at h; split at h <;> cases h
  rename_i m ks
  have hz := hq _ rfl
  simp only [szDo] at hz
  refine Body.intro (rs := [.tmp 2]) rfl rfl rfl ?_
  apply vc_run 1000 (stop := false) rfl; simp only [push_cast, reduceIte, Nat.reduceEqDiff, Nat.reduceAdd, Nat.reduceSub, Nat.reduceLT, Int.reduceNeg, Int.reduceLE, Int.reduceLT, Int.reduceToNat, Nat.reduceLeDiff, UInt8.reduceOfNat, UInt8.reduceOfNatLT, and_self, Nat.reduceMul, decide_true, decide_false, Bool.not_true, Bool.not_false, implies_true]
  have hk := szL_len szNd ks
  have e : (Node.mk 1 0 m [] [] ks).kids = ks := rfl
  have e2 : holdsNd (Node.mk 1 0 m [] [] ks) = (!(isVoidS m && !ks.isEmpty) && !(isRawS m && ks.any notText)) := by rw [holdsNd_mk]; rfl
  rw [e, e2]
  refine ⟨by omega, fun _ => by omega, fun _ => by omega, ?_⟩
  rw [docOK]
  show _ = AV.bool (tagOK m && mayB m ks)
  rw [mayB]
  generalize tagOK m = b1; generalize treeOK ks = b2; generalize isVoidS m = b3; generalize isRawS m = b4; generalize ks.isEmpty = b5; generalize ks.any notText = b6
  cases b1 <;> cases b2 <;> cases b3 <;> cases b4 <;> cases b5 <;> cases b6 <;> rfl)
noncomputable def sp_cfgsOK : Spec := ⟨[.sl .cfg], [.rd], true, fun
  | [.dat ⟨.cfg, cs⟩] => some (some (szL szCfg cs ≤ 1048576), .bool (decide (cs.length ≤ 4) && !cs.any notCfg), [])
  | _ => none⟩
@[push_cast] theorem sp_cfgsOK_ps : sp_cfgsOK.ps = [.sl .cfg] := rfl
@[push_cast] theorem sp_cfgsOK_md : sp_cfgsOK.modes = [.rd] := rfl
@[push_cast] theorem sp_cfgsOK_pure : sp_cfgsOK.pure = true := rfl
@[push_cast] theorem sp_cfgsOK_run (cs : List Cfg) : sp_cfgsOK.run [.dat ⟨.cfg, cs⟩] = some (some (szL szCfg cs ≤ 1048576), .bool (decide (cs.length ≤ 4) && !cs.any notCfg), []) := rfl
noncomputable def e_cfgsOK : Env := mk [(86, sp_checkCfg)] [] []
@[push_cast] theorem e_cfgsOK_gh : e_cfgsOK.gh = ghOf [] := rfl
@[push_cast] theorem e_cfgsOK_dr : e_cfgsOK.dr = drOf [] := rfl
@[push_cast] theorem e_cfgsOK_td : e_cfgsOK.td = td := rfl
@[push_cast] theorem e_cfgsOK_eqt : e_cfgsOK.eqt = eqt := rfl
@[push_cast] theorem e_cfgsOK_cal : e_cfgsOK.cal = calOf [(86, sp_checkCfg)] := rfl
theorem c_cfgsOK : CRow P0 ety0 62 sp_cfgsOK := CRow.of (E := e_cfgsOK) (mkOk (.cons c_l07Check (.nil))) func62 rfl rfl rfl (by
  intro args p r outs h hq
  simp only [sp_cfgsOK] at h; split at h <;> cases h
  rename_i cs
  have hz := hq _ rfl
  refine Body.intro (rs := [.tmp 2]) rfl rfl rfl ?_
  apply vc_run 1000 (stop := false) rfl; simp only [push_cast, reduceIte, Nat.reduceEqDiff, Nat.reduceAdd, Nat.reduceSub, Nat.reduceLT, Int.reduceNeg, Int.reduceLE, Int.reduceLT, Int.reduceToNat, Nat.reduceLeDiff, UInt8.reduceOfNat, UInt8.reduceOfNatLT, and_self, Nat.reduceMul, decide_true, decide_false, Bool.not_true, Bool.not_false, implies_true]
  have e4 : decide ((4 : Int) < (cs.length : Nat)) = !decide (cs.length ≤ 4) := len_gt (n := 4)
  simp only [e4]
  refine ⟨fun h => ?_, fun h => ?_⟩
  · have h : decide (cs.length ≤ 4) = false := by simpa using h
    rw [h]; rfl
  have h : decide (cs.length ≤ 4) = true := by simpa using h
  have hl4 : cs.length ≤ 4 := of_decide_eq_true h
  rw [h, Bool.true_and]
  refine Run.loop [3] [0] [] rfl (fun n vs bs => ∃ j : Nat, vs = [.int .i64 j] ∧ bs = [] ∧ j ≤ cs.length ∧ (∀ i < j, notCfg (cs.getD i cfgD) = false) ∧ n = cs.length - j) cs.length ?_ ?_
  · simp only [push_cast, reduceIte, Nat.reduceEqDiff, Nat.reduceAdd, Nat.reduceSub, Nat.reduceLT, Int.reduceNeg, Int.reduceLE, Int.reduceLT, Int.reduceToNat, Nat.reduceLeDiff, UInt8.reduceOfNat, UInt8.reduceOfNatLT, and_self, Nat.reduceMul, decide_true, decide_false, Bool.not_true, Bool.not_false, implies_true]
    exact ⟨0, rfl, by omega, by simp, by omega⟩
  rintro n vs bs ⟨j, rfl, rfl, hj, hb, rfl⟩
  simp only [push_cast, reduceIte, Nat.reduceEqDiff, Nat.reduceAdd, Nat.reduceSub, Nat.reduceLT, Int.reduceNeg, Int.reduceLE, Int.reduceLT, Int.reduceToNat, Nat.reduceLeDiff, UInt8.reduceOfNat, UInt8.reduceOfNatLT, and_self, Nat.reduceMul, decide_true, decide_false, Bool.not_true, Bool.not_false, implies_true]
  apply vc_run 1000 (stop := false) rfl; simp only [push_cast, reduceIte, Nat.reduceEqDiff, Nat.reduceAdd, Nat.reduceSub, Nat.reduceLT, Int.reduceNeg, Int.reduceLE, Int.reduceLT, Int.reduceToNat, Nat.reduceLeDiff, UInt8.reduceOfNat, UInt8.reduceOfNatLT, and_self, Nat.reduceMul, decide_true, decide_false, Bool.not_true, Bool.not_false, implies_true]
  refine ⟨fun hlt => ?_, fun hge => ?_⟩
  · have hlt : j < cs.length := Int.ofNat_lt.1 (of_decide_eq_true hlt)
    have hel := szL_at szCfg cfgD hlt
    simp only [gd_nat]
    refine ⟨by omega, by omega, fun hy => ?_, fun hy => ⟨by constructor <;> omega, _, by omega, j + 1, rfl, by omega, below_step hb hy, rfl⟩⟩
    have := any_take_yes (p := notCfg) hlt (Nat.le_refl _) hy
    rw [List.take_length] at this
    rw [this]; rfl
  · have hge : j = cs.length := by have := of_decide_eq_false hge; omega
    subst hge
    have := any_take_no (p := notCfg) (d := cfgD) (Nat.le_refl cs.length) hb
    rw [List.take_length] at this
    rw [this]; rfl)
noncomputable def e_l10OK : Env := mk [(62, sp_cfgsOK), (63, sp_docOK)] [] []
@[push_cast] theorem e_l10OK_gh : e_l10OK.gh = ghOf [] := rfl
@[push_cast] theorem e_l10OK_dr : e_l10OK.dr = drOf [] := rfl
@[push_cast] theorem e_l10OK_td : e_l10OK.td = td := rfl
@[push_cast] theorem e_l10OK_eqt : e_l10OK.eqt = eqt := rfl
@[push_cast] theorem e_l10OK_cal : e_l10OK.cal = calOf [(62, sp_cfgsOK), (63, sp_docOK)] := rfl
theorem c_l10OK : CRow P0 ety0 29 sp_houseOK := CRow.of (E := e_l10OK) (mkOk (.cons c_cfgsOK (.cons c_docOK2 (.nil)))) func29 rfl rfl rfl (by
  intro args p r outs h hq
  simp only [sp_houseOK] at h; split at h <;> cases h
  rename_i ds cs
  obtain ⟨hz1, hz2⟩ := hq _ rfl
  refine Body.intro (rs := [.tmp 2]) rfl rfl rfl ?_
  apply vc_run 1000 (stop := false) rfl; simp only [push_cast, reduceIte, Nat.reduceEqDiff, Nat.reduceAdd, Nat.reduceSub, Nat.reduceLT, Int.reduceNeg, Int.reduceLE, Int.reduceLT, Int.reduceToNat, Nat.reduceLeDiff, UInt8.reduceOfNat, UInt8.reduceOfNatLT, and_self, Nat.reduceMul, decide_true, decide_false, Bool.not_true, Bool.not_false, implies_true]
  have e6 : decide ((6 : Int) < (ds.length : Nat)) = !decide (ds.length ≤ 6) := len_gt (n := 6)
  simp only [e6]
  have hl := szL_len szDo ds
  obtain ⟨P, hP⟩ : ∃ P, P = (decide (cs.length ≤ 4) && !cs.any notCfg) := ⟨_, rfl⟩
  have hH : houseOK ds cs = (decide (ds.length ≤ 6) && ds.all docOK && P) := by
    rw [houseOK, hP]
    generalize decide (ds.length ≤ 6) = b1; generalize decide (cs.length ≤ 4) = b2; generalize ds.all docOK = b3; generalize cs.any notCfg = b4
    cases b1 <;> cases b2 <;> cases b3 <;> cases b4 <;> rfl
  rw [← hP, hH]
  refine ⟨fun _ => hz2, fun h => ?_, fun h => ?_⟩
  · revert h
    generalize decide (ds.length ≤ 6) = b1
    cases b1 <;> cases P <;> simp
  have h6 : decide (ds.length ≤ 6) = true := by revert h; generalize decide (ds.length ≤ 6) = b1; cases b1 <;> cases P <;> simp
  have hp : P = true := by revert h; generalize decide (ds.length ≤ 6) = b1; cases b1 <;> cases P <;> simp
  rw [h6, hp, Bool.and_true, Bool.true_and]
  refine Run.loop [3] [1] [0] rfl (fun n vs bs => ∃ j : Nat, vs = [.int .i64 j] ∧ bs = [[.dat ⟨.doc, ds⟩, .dat ⟨.cfg, cs⟩]] ∧ j ≤ ds.length ∧ (∀ i < j, (!docOK (ds.getD i docD)) = false) ∧ n = ds.length - j) ds.length ?_ ?_
  · simp only [push_cast, reduceIte, Nat.reduceEqDiff, Nat.reduceAdd, Nat.reduceSub, Nat.reduceLT, Int.reduceNeg, Int.reduceLE, Int.reduceLT, Int.reduceToNat, Nat.reduceLeDiff, UInt8.reduceOfNat, UInt8.reduceOfNatLT, and_self, Nat.reduceMul, decide_true, decide_false, Bool.not_true, Bool.not_false, implies_true]
    exact ⟨0, rfl, by omega, by simp, by omega⟩
  rintro n vs bs ⟨j, rfl, rfl, hj, hb, rfl⟩
  simp only [push_cast, reduceIte, Nat.reduceEqDiff, Nat.reduceAdd, Nat.reduceSub, Nat.reduceLT, Int.reduceNeg, Int.reduceLE, Int.reduceLT, Int.reduceToNat, Nat.reduceLeDiff, UInt8.reduceOfNat, UInt8.reduceOfNatLT, and_self, Nat.reduceMul, decide_true, decide_false, Bool.not_true, Bool.not_false, implies_true]
  apply vc_run 1000 (stop := false) rfl; simp only [push_cast, reduceIte, Nat.reduceEqDiff, Nat.reduceAdd, Nat.reduceSub, Nat.reduceLT, Int.reduceNeg, Int.reduceLE, Int.reduceLT, Int.reduceToNat, Nat.reduceLeDiff, UInt8.reduceOfNat, UInt8.reduceOfNatLT, and_self, Nat.reduceMul, decide_true, decide_false, Bool.not_true, Bool.not_false, implies_true]
  refine ⟨fun hlt => ?_, fun hge => ?_⟩
  · have hlt : j < ds.length := Int.ofNat_lt.1 (of_decide_eq_true hlt)
    have hel := szL_at szDo docD hlt
    simp only [gd_nat]
    refine ⟨by omega, by omega, fun hy => ?_, fun hy => ⟨by constructor <;> omega, _, by omega, j + 1, rfl, by omega, below_step hb hy, rfl⟩⟩
    rw [all_at_no hlt (by simpa using hy)]
  · have hge : j = ds.length := by have := of_decide_eq_false hge; omega
    subst hge
    rw [all_at_yes (d := docD) (fun i hi => by simpa using hb i hi)])
noncomputable def e_houseOK2 : Env := mk [(29, sp_houseOK)] [] []
@[push_cast] theorem e_houseOK2_gh : e_houseOK2.gh = ghOf [] := rfl
@[push_cast] theorem e_houseOK2_dr : e_houseOK2.dr = drOf [] := rfl
@[push_cast] theorem e_houseOK2_td : e_houseOK2.td = td := rfl
@[push_cast] theorem e_houseOK2_eqt : e_houseOK2.eqt = eqt := rfl
@[push_cast] theorem e_houseOK2_cal : e_houseOK2.cal = calOf [(29, sp_houseOK)] := rfl
theorem c_houseOK2 : CRow P0 ety0 9 sp_houseOK := CRow.of (E := e_houseOK2) (mkOk (.cons c_l10OK (.nil))) func9 rfl rfl rfl (by
  intro args p r outs h hq
  simp only [sp_houseOK] at h; split at h <;> cases h
  rename_i ds cs
  have hz := hq _ rfl
  refine Body.intro (rs := [.tmp 2]) rfl rfl rfl ?_
  apply vc_run 1000 (stop := false) rfl; simp only [push_cast, reduceIte, Nat.reduceEqDiff, Nat.reduceAdd, Nat.reduceSub, Nat.reduceLT, Int.reduceNeg, Int.reduceLE, Int.reduceLT, Int.reduceToNat, Nat.reduceLeDiff, UInt8.reduceOfNat, UInt8.reduceOfNatLT, and_self, Nat.reduceMul, decide_true, decide_false, Bool.not_true, Bool.not_false, implies_true]
  exact hz)
noncomputable def sp_lawHouseOK : Spec := ⟨[.sc], [.rd], true, fun
  | [.agg [.dat ⟨.doc, ds⟩, .dat ⟨.cfg, cs⟩]] => some (some (fitL fitDo ds ∧ fitL fitCfg cs), .bool true, [])
  | _ => none⟩
@[push_cast] theorem sp_lawHouseOK_ps : sp_lawHouseOK.ps = [.sc] := rfl
@[push_cast] theorem sp_lawHouseOK_md : sp_lawHouseOK.modes = [.rd] := rfl
@[push_cast] theorem sp_lawHouseOK_pure : sp_lawHouseOK.pure = true := rfl
@[push_cast] theorem sp_lawHouseOK_run (ds : List Docu) (cs : List Cfg) : sp_lawHouseOK.run [.agg [.dat ⟨.doc, ds⟩, .dat ⟨.cfg, cs⟩]] = some (some (fitL fitDo ds ∧ fitL fitCfg cs), .bool true, []) := rfl
noncomputable def e_lawHouseOK : Env := mk [(8, sp_szHouse), (10, sp_toHouse), (12, sp_eqHouse), (11, sp_houseOK), (9, sp_houseOK)] [(10, [2], [[1]])] []
@[push_cast] theorem e_lawHouseOK_gh : e_lawHouseOK.gh = ghOf [] := rfl
@[push_cast] theorem e_lawHouseOK_dr : e_lawHouseOK.dr = drOf [(10, [2], [[1]])] := rfl
@[push_cast] theorem e_lawHouseOK_td : e_lawHouseOK.td = td := rfl
@[push_cast] theorem e_lawHouseOK_eqt : e_lawHouseOK.eqt = eqt := rfl
@[push_cast] theorem e_lawHouseOK_cal : e_lawHouseOK.cal = calOf [(8, sp_szHouse), (10, sp_toHouse), (12, sp_eqHouse), (11, sp_houseOK), (9, sp_houseOK)] := rfl
theorem c_lawHouseOK : CRow P0 ety0 3 sp_lawHouseOK := CRow.of (E := e_lawHouseOK) (mkOk (.cons c_szHouse (.cons c_toHouse (.cons c_eqHouse (.cons c_houseOK (.cons c_houseOK2 (.nil))))))) func3 rfl rfl rfl (by
  intro args p r outs h hq
  simp only [sp_lawHouseOK] at h; split at h <;> cases h
  rename_i ds cs
  obtain ⟨hd, hc⟩ := hq _ rfl
  refine Body.intro (rs := [.tmp 2]) rfl rfl rfl ?_
  apply vc_run 1000 (stop := false) rfl; simp only [push_cast, reduceIte, Nat.reduceEqDiff, Nat.reduceAdd, Nat.reduceSub, Nat.reduceLT, Int.reduceNeg, Int.reduceLE, Int.reduceLT, Int.reduceToNat, Nat.reduceLeDiff, UInt8.reduceOfNat, UInt8.reduceOfNatLT, and_self, Nat.reduceMul, decide_true, decide_false, Bool.not_true, Bool.not_false, implies_true]
  refine ⟨⟨hd, hc⟩, fun h => ?_⟩
  have h : szL szDo ds + szL szCfg cs ≤ 1048576 := by
    have h := of_decide_eq_false h
    unfold szR at h
    split at h
    · exact absurd (by omega) h
    · omega
  have k : szL szDo ds ≤ 1048576 ∧ szL szCfg cs ≤ 1048576 := ⟨by omega, by omega⟩
  rw [eqB_of rfl, eqB_of rfl]
  exact ⟨k, k, k, k, fun h => h.elim, k, k, fun h => by cases h⟩)
end Go.Ab
