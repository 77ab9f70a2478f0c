/- Houses. -/
import Derived.Test.YtnnbjffppfagkaaGreatFnH
import Derived.Test.YtnnbjffppfagkaaGreatFnU
set_option linter.all false
set_option linter.unusedSimpArgs false
set_option linter.unusedVariables false
set_option linter.unusedSectionVars false
set_option maxRecDepth 20000
set_option maxHeartbeats 1000000
namespace Go.Ab
open Go Go.Proofs.Tryz
def szDo (d : Docu) : Nat := d.name.length + szL szNd d.kids
def fitDo (d : Docu) : Prop := fitStr d.name ∧ fitL fitNd d.kids
@[push_cast] theorem eta_doc (d : Docu) : (⟨d.name, d.kids⟩ : Docu) = d := rfl
@[push_cast] theorem eta_cfg (c : Cfg) : (⟨c.hasAllow, c.hasAttrs, c.allow, c.remove, c.unwrap, c.attrs, c.drop, c.comments, c.data⟩ : Cfg) = c := rfl
noncomputable def sp_szDoc : Spec := ⟨[.st .doc, .sc], [.rd, .rd], true, fun
  | [.agg [.str m, .dat ⟨.node, ks⟩], .int .i64 n] => some (some (0 ≤ n ∧ n ≤ 1048576 ∧ fitDo ⟨m, ks⟩), .int .i64 (szR (szDo ⟨m, ks⟩) n), [])
  | _ => none⟩
@[push_cast] theorem sp_szDoc_ps : sp_szDoc.ps = [.st .doc, .sc] := rfl
@[push_cast] theorem sp_szDoc_md : sp_szDoc.modes = [.rd, .rd] := rfl
@[push_cast] theorem sp_szDoc_pure : sp_szDoc.pure = true := rfl
@[push_cast] theorem sp_szDoc_run (m : Str) (ks : List Node) (n : Int) : sp_szDoc.run [.agg [.str m, .dat ⟨.node, ks⟩], .int .i64 n] = some (some (0 ≤ n ∧ n ≤ 1048576 ∧ fitDo ⟨m, ks⟩), .int .i64 (szR (szDo ⟨m, ks⟩) n), []) := rfl
noncomputable def sp_szDocS : Spec := ⟨[.sl .doc, .sc], [.rd, .rd], true, fun
  | [.dat ⟨.doc, l⟩, .int .i64 n] => some (some (0 ≤ n ∧ n ≤ 1048576 ∧ fitL fitDo l), .int .i64 (szR (szL szDo l) n), [])
  | _ => none⟩
@[push_cast] theorem sp_szDocS_ps : sp_szDocS.ps = [.sl .doc, .sc] := rfl
@[push_cast] theorem sp_szDocS_md : sp_szDocS.modes = [.rd, .rd] := rfl
@[push_cast] theorem sp_szDocS_pure : sp_szDocS.pure = true := rfl
@[push_cast] theorem sp_szDocS_run (l : List Docu) (n : Int) : sp_szDocS.run [.dat ⟨.doc, l⟩, .int .i64 n] = some (some (0 ≤ n ∧ n ≤ 1048576 ∧ fitL fitDo l), .int .i64 (szR (szL szDo l) n), []) := rfl
noncomputable def sp_szConfigS : Spec := ⟨[.sl .cfg, .sc], [.rd, .rd], true, fun
  | [.dat ⟨.cfg, l⟩, .int .i64 n] => some (some (0 ≤ n ∧ n ≤ 1048576 ∧ fitL fitCfg l), .int .i64 (szR (szL szCfg l) n), [])
  | _ => none⟩
@[push_cast] theorem sp_szConfigS_ps : sp_szConfigS.ps = [.sl .cfg, .sc] := rfl
@[push_cast] theorem sp_szConfigS_md : sp_szConfigS.modes = [.rd, .rd] := rfl
@[push_cast] theorem sp_szConfigS_pure : sp_szConfigS.pure = true := rfl
@[push_cast] theorem sp_szConfigS_run (l : List Cfg) (n : Int) : sp_szConfigS.run [.dat ⟨.cfg, l⟩, .int .i64 n] = some (some (0 ≤ n ∧ n ≤ 1048576 ∧ fitL fitCfg l), .int .i64 (szR (szL szCfg l) n), []) := rfl
noncomputable def sp_szHouse : Spec := ⟨[.sc, .sc], [.rd, .rd], true, fun
  | [.agg [.dat ⟨.doc, ds⟩, .dat ⟨.cfg, cs⟩], .int .i64 n] => some (some (0 ≤ n ∧ n ≤ 1048576 ∧ fitL fitDo ds ∧ fitL fitCfg cs), .int .i64 (szR (szL szDo ds + szL szCfg cs) n), [])
  | _ => none⟩
@[push_cast] theorem sp_szHouse_ps : sp_szHouse.ps = [.sc, .sc] := rfl
@[push_cast] theorem sp_szHouse_md : sp_szHouse.modes = [.rd, .rd] := rfl
@[push_cast] theorem sp_szHouse_pure : sp_szHouse.pure = true := rfl
@[push_cast] theorem sp_szHouse_run (ds : List Docu) (cs : List Cfg) (n : Int) : sp_szHouse.run [.agg [.dat ⟨.doc, ds⟩, .dat ⟨.cfg, cs⟩], .int .i64 n] = some (some (0 ≤ n ∧ n ≤ 1048576 ∧ fitL fitDo ds ∧ fitL fitCfg cs), .int .i64 (szR (szL szDo ds + szL szCfg cs) n), []) := rfl
noncomputable def sp_toDoc : Spec := ⟨[.st .doc], [.rd], false, fun
  | [.agg [.str m, .dat ⟨.node, ks⟩]] => some (some (szL szNd ks ≤ 1048576), .agg [.str m, .own true ⟨.node, ks⟩], [])
  | _ => none⟩
@[push_cast] theorem sp_toDoc_ps : sp_toDoc.ps = [.st .doc] := rfl
@[push_cast] theorem sp_toDoc_md : sp_toDoc.modes = [.rd] := rfl
@[push_cast] theorem sp_toDoc_pure : sp_toDoc.pure = false := rfl
@[push_cast] theorem sp_toDoc_run (m : Str) (ks : List Node) : sp_toDoc.run [.agg [.str m, .dat ⟨.node, ks⟩]] = some (some (szL szNd ks ≤ 1048576), .agg [.str m, .own true ⟨.node, ks⟩], []) := rfl
noncomputable def sp_toDocS : Spec := ⟨[.sl .doc], [.rd], false, fun
  | [.dat ⟨.doc, l⟩] => some (some (szL szDo l ≤ 1048576), .own true ⟨.doc, l⟩, [])
  | _ => none⟩
@[push_cast] theorem sp_toDocS_ps : sp_toDocS.ps = [.sl .doc] := rfl
@[push_cast] theorem sp_toDocS_md : sp_toDocS.modes = [.rd] := rfl
@[push_cast] theorem sp_toDocS_pure : sp_toDocS.pure = false := rfl
@[push_cast] theorem sp_toDocS_run (l : List Docu) : sp_toDocS.run [.dat ⟨.doc, l⟩] = some (some (szL szDo l ≤ 1048576), .own true ⟨.doc, l⟩, []) := rfl
noncomputable def sp_toConfigS : Spec := ⟨[.sl .cfg], [.rd], false, fun
  | [.dat ⟨.cfg, l⟩] => some (some (szL szCfg l ≤ 1048576), .own true ⟨.cfg, l⟩, [])
  | _ => none⟩
@[push_cast] theorem sp_toConfigS_ps : sp_toConfigS.ps = [.sl .cfg] := rfl
@[push_cast] theorem sp_toConfigS_md : sp_toConfigS.modes = [.rd] := rfl
@[push_cast] theorem sp_toConfigS_pure : sp_toConfigS.pure = false := rfl
@[push_cast] theorem sp_toConfigS_run (l : List Cfg) : sp_toConfigS.run [.dat ⟨.cfg, l⟩] = some (some (szL szCfg l ≤ 1048576), .own true ⟨.cfg, l⟩, []) := rfl
noncomputable def sp_toHouse : Spec := ⟨[.sc], [.rd], false, fun
  | [.agg [.dat ⟨.doc, ds⟩, .dat ⟨.cfg, cs⟩]] => some (some (szL szDo ds ≤ 1048576 ∧ szL szCfg cs ≤ 1048576), .agg [.own true ⟨.doc, ds⟩, .own true ⟨.cfg, cs⟩], [])
  | _ => none⟩
@[push_cast] theorem sp_toHouse_ps : sp_toHouse.ps = [.sc] := rfl
@[push_cast] theorem sp_toHouse_md : sp_toHouse.modes = [.rd] := rfl
@[push_cast] theorem sp_toHouse_pure : sp_toHouse.pure = false := rfl
@[push_cast] theorem sp_toHouse_run (ds : List Docu) (cs : List Cfg) : sp_toHouse.run [.agg [.dat ⟨.doc, ds⟩, .dat ⟨.cfg, cs⟩]] = some (some (szL szDo ds ≤ 1048576 ∧ szL szCfg cs ≤ 1048576), .agg [.own true ⟨.doc, ds⟩, .own true ⟨.cfg, cs⟩], []) := rfl
noncomputable def sp_eqDoc : Spec := ⟨[.st .doc, .st .doc], [.rd, .rd], true, fun
  | [.agg [.str m, .dat ⟨.node, ks⟩], .agg [.str m2, .dat ⟨.node, ks2⟩]] => some (some (szL szNd ks ≤ 1048576), .bool (eqB (⟨m, ks⟩ : Docu) ⟨m2, ks2⟩), [])
  | _ => none⟩
@[push_cast] theorem sp_eqDoc_ps : sp_eqDoc.ps = [.st .doc, .st .doc] := rfl
@[push_cast] theorem sp_eqDoc_md : sp_eqDoc.modes = [.rd, .rd] := rfl
@[push_cast] theorem sp_eqDoc_pure : sp_eqDoc.pure = true := rfl
@[push_cast] theorem sp_eqDoc_run (m m2 : Str) (ks ks2 : List Node) : sp_eqDoc.run [.agg [.str m, .dat ⟨.node, ks⟩], .agg [.str m2, .dat ⟨.node, ks2⟩]] = some (some (szL szNd ks ≤ 1048576), .bool (eqB (⟨m, ks⟩ : Docu) ⟨m2, ks2⟩), []) := rfl
noncomputable def sp_eqDocS : Spec := ⟨[.sl .doc, .sl .doc], [.rd, .rd], true, fun
  | [.dat ⟨.doc, a⟩, .dat ⟨.doc, b⟩] => some (some (szL szDo a ≤ 1048576), .bool (eqB a b), [])
  | _ => none⟩
@[push_cast] theorem sp_eqDocS_ps : sp_eqDocS.ps = [.sl .doc, .sl .doc] := rfl
@[push_cast] theorem sp_eqDocS_md : sp_eqDocS.modes = [.rd, .rd] := rfl
@[push_cast] theorem sp_eqDocS_pure : sp_eqDocS.pure = true := rfl
@[push_cast] theorem sp_eqDocS_run (a b : List Docu) : sp_eqDocS.run [.dat ⟨.doc, a⟩, .dat ⟨.doc, b⟩] = some (some (szL szDo a ≤ 1048576), .bool (eqB a b), []) := rfl
noncomputable def sp_eqConfigS : Spec := ⟨[.sl .cfg, .sl .cfg], [.rd, .rd], true, fun
  | [.dat ⟨.cfg, a⟩, .dat ⟨.cfg, b⟩] => some (some (szL szCfg a ≤ 1048576), .bool (eqB a b), [])
  | _ => none⟩
@[push_cast] theorem sp_eqConfigS_ps : sp_eqConfigS.ps = [.sl .cfg, .sl .cfg] := rfl
@[push_cast] theorem sp_eqConfigS_md : sp_eqConfigS.modes = [.rd, .rd] := rfl
@[push_cast] theorem sp_eqConfigS_pure : sp_eqConfigS.pure = true := rfl
@[push_cast] theorem sp_eqConfigS_run (a b : List Cfg) : sp_eqConfigS.run [.dat ⟨.cfg, a⟩, .dat ⟨.cfg, b⟩] = some (some (szL szCfg a ≤ 1048576), .bool (eqB a b), []) := rfl
noncomputable def sp_eqHouse : Spec := ⟨[.sc, .sc], [.rd, .rd], true, fun
  | [.agg [.dat ⟨.doc, ds⟩, .dat ⟨.cfg, cs⟩], .agg [.dat ⟨.doc, ds2⟩, .dat ⟨.cfg, cs2⟩]] => some (some (szL szDo ds ≤ 1048576 ∧ szL szCfg cs ≤ 1048576), .bool (eqB ds ds2 && eqB cs cs2), [])
  | _ => none⟩
@[push_cast] theorem sp_eqHouse_ps : sp_eqHouse.ps = [.sc, .sc] := rfl
@[push_cast] theorem sp_eqHouse_md : sp_eqHouse.modes = [.rd, .rd] := rfl
@[push_cast] theorem sp_eqHouse_pure : sp_eqHouse.pure = true := rfl
@[push_cast] theorem sp_eqHouse_run (ds ds2 : List Docu) (cs cs2 : List Cfg) : sp_eqHouse.run [.agg [.dat ⟨.doc, ds⟩, .dat ⟨.cfg, cs⟩], .agg [.dat ⟨.doc, ds2⟩, .dat ⟨.cfg, cs2⟩]] = some (some (szL szDo ds ≤ 1048576 ∧ szL szCfg cs ≤ 1048576), .bool (eqB ds ds2 && eqB cs cs2), []) := rfl
def mayB (m : Str) (ks : List Node) : Bool := treeOK ks && (!isVoidS m || ks.isEmpty) && (!isRawS m || !ks.any notText)
noncomputable def sp_mayB : Spec := ⟨[.st .doc, .sl .node], [.rd, .rd], true, fun
  | [.agg [.str m, .dat ⟨.node, k0⟩], .dat ⟨.node, ks⟩] => some (some (szL szNd ks ≤ 1048576), .bool (mayB m ks), [])
  | _ => none⟩
@[push_cast] theorem sp_mayB_ps : sp_mayB.ps = [.st .doc, .sl .node] := rfl
@[push_cast] theorem sp_mayB_md : sp_mayB.modes = [.rd, .rd] := rfl
@[push_cast] theorem sp_mayB_pure : sp_mayB.pure = true := rfl
@[push_cast] theorem sp_mayB_run (m : Str) (k0 ks : List Node) : sp_mayB.run [.agg [.str m, .dat ⟨.node, k0⟩], .dat ⟨.node, ks⟩] = some (some (szL szNd ks ≤ 1048576), .bool (mayB m ks), []) := rfl
def notCfg (c : Cfg) : Bool := !decide (checkCfg c = 0)
noncomputable def sp_notCfg : Spec := ⟨[.st .cfg], [.rd], true, fun
  | [.agg [.bool ha, .bool ht, .dat ⟨.rule, al⟩, .dat ⟨.rule, re⟩, .dat ⟨.rule, un⟩, .dat ⟨.str, ns⟩, .dat ⟨.str, dr⟩, .bool co, .bool da]] => some (some (szCfg ⟨ha, ht, al, re, un, ns, dr, co, da⟩ ≤ 1048576), .bool (notCfg ⟨ha, ht, al, re, un, ns, dr, co, da⟩), [])
  | _ => none⟩
@[push_cast] theorem sp_notCfg_ps : sp_notCfg.ps = [.st .cfg] := rfl
@[push_cast] theorem sp_notCfg_md : sp_notCfg.modes = [.rd] := rfl
@[push_cast] theorem sp_notCfg_pure : sp_notCfg.pure = true := rfl
@[push_cast] theorem sp_notCfg_run (ha ht : Bool) (al re un : List Rule) (ns dr : List Str) (co da : Bool) : sp_notCfg.run [.agg [.bool ha, .bool ht, .dat ⟨.rule, al⟩, .dat ⟨.rule, re⟩, .dat ⟨.rule, un⟩, .dat ⟨.str, ns⟩, .dat ⟨.str, dr⟩, .bool co, .bool da]] = some (some (szCfg ⟨ha, ht, al, re, un, ns, dr, co, da⟩ ≤ 1048576), .bool (notCfg ⟨ha, ht, al, re, un, ns, dr, co, da⟩), []) := rfl
theorem all_at_no {α : Type} {l : List α} {d : α} {p : α → Bool} {j : Nat} (h : j < l.length) (hy : p (l.getD j d) = false) : l.all p = false := by
  rw [List.all_eq_false]
  have e : l.getD j d = l[j] := by simp [List.getD, h]
  exact ⟨l[j], List.getElem_mem h, by rw [← e, hy]; simp⟩
theorem all_at_yes {α : Type} {l : List α} {d : α} {p : α → Bool} (h : ∀ j < l.length, p (l.getD j d) = true) : l.all p = true := by
  rw [List.all_eq_true]
  intro x hx
  obtain ⟨i, hi, rfl⟩ := List.getElem_of_mem hx
  have e : l.getD i d = l[i] := by simp [List.getD, hi]
  rw [← e]; exact h i hi
def docOK (d : Docu) : Bool := tagOK d.name && mayB d.name d.kids
def houseOK (ds : List Docu) (cs : List Cfg) : Bool := decide (ds.length ≤ 6) && decide (cs.length ≤ 4) && ds.all docOK && !cs.any notCfg
noncomputable def sp_houseOK : Spec := ⟨[.sc], [.rd], true, fun
  | [.agg [.dat ⟨.doc, ds⟩, .dat ⟨.cfg, cs⟩]] => some (some (szL szDo ds ≤ 1048576 ∧ szL szCfg cs ≤ 1048576), .bool (houseOK ds cs), [])
  | _ => none⟩
@[push_cast] theorem sp_houseOK_ps : sp_houseOK.ps = [.sc] := rfl
@[push_cast] theorem sp_houseOK_md : sp_houseOK.modes = [.rd] := rfl
@[push_cast] theorem sp_houseOK_pure : sp_houseOK.pure = true := rfl
@[push_cast] theorem sp_houseOK_run (ds : List Docu) (cs : List Cfg) : sp_houseOK.run [.agg [.dat ⟨.doc, ds⟩, .dat ⟨.cfg, cs⟩]] = some (some (szL szDo ds ≤ 1048576 ∧ szL szCfg cs ≤ 1048576), .bool (houseOK ds cs), []) := rfl
noncomputable def sp_docOK : Spec := ⟨[.st .doc], [.rd], true, fun
  | [.agg [.str m, .dat ⟨.node, ks⟩]] => some (some (szDo ⟨m, ks⟩ ≤ 1048576), .bool (docOK ⟨m, ks⟩), [])
  | _ => none⟩
@[push_cast] theorem sp_docOK_ps : sp_docOK.ps = [.st .doc] := rfl
@[push_cast] theorem sp_docOK_md : sp_docOK.modes = [.rd] := rfl
@[push_cast] theorem sp_docOK_pure : sp_docOK.pure = true := rfl
@[push_cast] theorem sp_docOK_run (m : Str) (ks : List Node) : sp_docOK.run [.agg [.str m, .dat ⟨.node, ks⟩]] = some (some (szDo ⟨m, ks⟩ ≤ 1048576), .bool (docOK ⟨m, ks⟩), []) := rfl
noncomputable def sp_cfgsOK : Spec := ⟨[.sl .cfg], [.rd], true, fun
  | [.dat ⟨.cfg, cs⟩] => some (some (szL szCfg cs ≤ 1048576), .bool (decide (cs.length ≤ 4) && !cs.any notCfg), [])
  | _ => none⟩
@[push_cast] theorem sp_cfgsOK_ps : sp_cfgsOK.ps = [.sl .cfg] := rfl
@[push_cast] theorem sp_cfgsOK_md : sp_cfgsOK.modes = [.rd] := rfl
@[push_cast] theorem sp_cfgsOK_pure : sp_cfgsOK.pure = true := rfl
@[push_cast] theorem sp_cfgsOK_run (cs : List Cfg) : sp_cfgsOK.run [.dat ⟨.cfg, cs⟩] = some (some (szL szCfg cs ≤ 1048576), .bool (decide (cs.length ≤ 4) && !cs.any notCfg), []) := rfl
noncomputable def sp_lawHouseOK : Spec := ⟨[.sc], [.rd], true, fun
  | [.agg [.dat ⟨.doc, ds⟩, .dat ⟨.cfg, cs⟩]] => some (some (fitL fitDo ds ∧ fitL fitCfg cs), .bool true, [])
  | _ => none⟩
@[push_cast] theorem sp_lawHouseOK_ps : sp_lawHouseOK.ps = [.sc] := rfl
@[push_cast] theorem sp_lawHouseOK_md : sp_lawHouseOK.modes = [.rd] := rfl
@[push_cast] theorem sp_lawHouseOK_pure : sp_lawHouseOK.pure = true := rfl
@[push_cast] theorem sp_lawHouseOK_run (ds : List Docu) (cs : List Cfg) : sp_lawHouseOK.run [.agg [.dat ⟨.doc, ds⟩, .dat ⟨.cfg, cs⟩]] = some (some (fitL fitDo ds ∧ fitL fitCfg cs), .bool true, []) := rfl
end Go.Ab
