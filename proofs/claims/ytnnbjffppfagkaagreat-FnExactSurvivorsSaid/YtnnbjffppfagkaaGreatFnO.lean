/- Copies of trees, attributes that are left. -/
import Derived.Test.YtnnbjffppfagkaaGreatFnM
import Derived.Test.YtnnbjffppfagkaaGreatFnCo
import Derived.Test.YtnnbjffppfagkaaGreatFnDe
set_option linter.all false
set_option linter.unusedSimpArgs false
set_option linter.unusedVariables false
set_option linter.unusedSectionVars false
set_option maxRecDepth 20000
set_option maxHeartbeats 1000000
namespace Go.Ab
open Go Go.Proofs.Tryz
def goesA (c : Cfg) (s : Int) (m : Str) (a : Attr) : Bool := !keepA c s m a
noncomputable def sp_goesA : Spec := ⟨[.st .attr, .sc, .sc], [.rd, .rd, .rd], true, fun
  | [.agg [.str x, .str y], .rbp [.bool ha, .bool ht, .dat ⟨.rule, al⟩, .dat ⟨.rule, re⟩, .dat ⟨.rule, un⟩, .dat ⟨.str, ns⟩, .dat ⟨.str, dr⟩, .bool co, .bool da] 0, .rbp [.int .i64 k, .int .i64 s, .str m, .str t, .dat ⟨.attr, b⟩, .dat ⟨.node, ks⟩] 0] => some (some (szCfg ⟨ha, ht, al, re, un, ns, dr, co, da⟩ ≤ 1048576 ∧ x.length ≤ 65536 ∧ y.length ≤ 65536), .bool (goesA ⟨ha, ht, al, re, un, ns, dr, co, da⟩ s m ⟨x, y⟩), [])
  | _ => none⟩
@[push_cast] theorem sp_goesA_ps : sp_goesA.ps = [.st .attr, .sc, .sc] := rfl
@[push_cast] theorem sp_goesA_md : sp_goesA.modes = [.rd, .rd, .rd] := rfl
@[push_cast] theorem sp_goesA_pure : sp_goesA.pure = true := rfl
@[push_cast] theorem sp_goesA_run (x y : Str) (ha ht : Bool) (al re un : List Rule) (ns dr : List Str) (co da : Bool) (k s : Int) (m t : Str) (b : List Attr) (ks : List Node) : sp_goesA.run [.agg [.str x, .str y], .rbp [.bool ha, .bool ht, .dat ⟨.rule, al⟩, .dat ⟨.rule, re⟩, .dat ⟨.rule, un⟩, .dat ⟨.str, ns⟩, .dat ⟨.str, dr⟩, .bool co, .bool da] 0, .rbp [.int .i64 k, .int .i64 s, .str m, .str t, .dat ⟨.attr, b⟩, .dat ⟨.node, ks⟩] 0] = some (some (szCfg ⟨ha, ht, al, re, un, ns, dr, co, da⟩ ≤ 1048576 ∧ x.length ≤ 65536 ∧ y.length ≤ 65536), .bool (goesA ⟨ha, ht, al, re, un, ns, dr, co, da⟩ s m ⟨x, y⟩), []) := rfl
noncomputable def e_goesA : Env := mk [(72, sp_keepA)] [] [] [] none
@[push_cast] theorem e_goesA_in : e_goesA.inl = inlF [] := rfl
@[push_cast] theorem e_goesA_fn : e_goesA.fnd = fndF none := rfl
@[push_cast] theorem e_goesA_gh : e_goesA.gh = ghOf [] := rfl
@[push_cast] theorem e_goesA_dr : e_goesA.dr = drOf [] := rfl
@[push_cast] theorem e_goesA_td : e_goesA.td = td := rfl
@[push_cast] theorem e_goesA_eqt : e_goesA.eqt = eqt := rfl
@[push_cast] theorem e_goesA_cal : e_goesA.cal = calOf [(72, sp_keepA)] := rfl
theorem c_goesA : CRow P0 ety0 71 sp_goesA := CRow.of (E := e_goesA) (mkOk (.cons c_keepA (.nil))) func71 rfl rfl rfl (by
  intro args p r outs h hq
  simp only [sp_goesA] at h; split at h <;> cases h
  rename_i x y ha ht al re un ns dr co da k s m t b ks
  have hz := hq _ rfl
  refine Body.intro (rs := [.tmp 4]) rfl rfl rfl ?_
  apply vc_run 1000 (stop := false) rfl; simp only [push_cast, reduceIte, Nat.reduceEqDiff, Nat.reduceAdd, Nat.reduceSub, Nat.reduceLT, Int.reduceNeg, Int.reduceLE, Int.reduceLT, Int.reduceToNat, Nat.reduceLeDiff, UInt8.reduceOfNat, UInt8.reduceOfNatLT, and_self, Nat.reduceMul, decide_true, decide_false, Bool.not_true, Bool.not_false, implies_true]
  exact ⟨hz, rfl⟩)
noncomputable def sp_idxAttrG : Spec := ⟨[.sl .attr, .sc], [.rd, .rd], true, fun
  | [.dat ⟨.attr, l⟩, .fn 71 [] [.rbp [.bool ha, .bool ht, .dat ⟨.rule, al⟩, .dat ⟨.rule, re⟩, .dat ⟨.rule, un⟩, .dat ⟨.str, ns⟩, .dat ⟨.str, dr⟩, .bool co, .bool da] 0, .rbp [.int .i64 k, .int .i64 s, .str m, .str t, .dat ⟨.attr, b⟩, .dat ⟨.node, ks⟩] 0]] => some (some (l.length ≤ 1073741824 ∧ szCfg ⟨ha, ht, al, re, un, ns, dr, co, da⟩ ≤ 1048576 ∧ ∀ a ∈ l, a.name.length ≤ 65536 ∧ a.value.length ≤ 65536), .int .i64 (idx (l.findIdx? (goesA ⟨ha, ht, al, re, un, ns, dr, co, da⟩ s m))), [])
  | _ => none⟩
@[push_cast] theorem sp_idxAttrG_ps : sp_idxAttrG.ps = [.sl .attr, .sc] := rfl
@[push_cast] theorem sp_idxAttrG_md : sp_idxAttrG.modes = [.rd, .rd] := rfl
@[push_cast] theorem sp_idxAttrG_pure : sp_idxAttrG.pure = true := rfl
@[push_cast] theorem sp_idxAttrG_run (l : List Attr) (ha ht : Bool) (al re un : List Rule) (ns dr : List Str) (co da : Bool) (k s : Int) (m t : Str) (b : List Attr) (ks : List Node) : sp_idxAttrG.run [.dat ⟨.attr, l⟩, .fn 71 [] [.rbp [.bool ha, .bool ht, .dat ⟨.rule, al⟩, .dat ⟨.rule, re⟩, .dat ⟨.rule, un⟩, .dat ⟨.str, ns⟩, .dat ⟨.str, dr⟩, .bool co, .bool da] 0, .rbp [.int .i64 k, .int .i64 s, .str m, .str t, .dat ⟨.attr, b⟩, .dat ⟨.node, ks⟩] 0]] = some (some (l.length ≤ 1073741824 ∧ szCfg ⟨ha, ht, al, re, un, ns, dr, co, da⟩ ≤ 1048576 ∧ ∀ a ∈ l, a.name.length ≤ 65536 ∧ a.value.length ≤ 65536), .int .i64 (idx (l.findIdx? (goesA ⟨ha, ht, al, re, un, ns, dr, co, da⟩ s m))), []) := rfl
noncomputable def e_idxAttrG : Env := mk [(71, sp_goesA)] [] [] [] none
@[push_cast] theorem e_idxAttrG_in : e_idxAttrG.inl = inlF [] := rfl
@[push_cast] theorem e_idxAttrG_fn : e_idxAttrG.fnd = fndF none := rfl
@[push_cast] theorem e_idxAttrG_gh : e_idxAttrG.gh = ghOf [] := rfl
@[push_cast] theorem e_idxAttrG_dr : e_idxAttrG.dr = drOf [] := rfl
@[push_cast] theorem e_idxAttrG_td : e_idxAttrG.td = td := rfl
@[push_cast] theorem e_idxAttrG_eqt : e_idxAttrG.eqt = eqt := rfl
@[push_cast] theorem e_idxAttrG_cal : e_idxAttrG.cal = calOf [(71, sp_goesA)] := rfl
theorem c_idxAttrG : CRow P0 ety0 110 sp_idxAttrG := CRow.of (E := e_idxAttrG) (mkOk (.cons c_goesA (.nil))) func110 rfl rfl rfl (by
  intro args p r outs h hq
  simp only [sp_idxAttrG] at h; split at h <;> cases h
  rename_i l ha ht al re un ns dr co da k s m t b ks
  have hq0 := hq _ rfl
  have hl : l.length ≤ 1073741824 := by first | exact hq0 | exact hq0.1
  refine Body.intro (rs := [.tmp 4]) rfl rfl rfl ?_
  apply vc_run 1000 (stop := false) rfl; simp only [push_cast, reduceIte, Nat.reduceEqDiff, Nat.reduceAdd, Nat.reduceSub, Nat.reduceLT, Int.reduceNeg, Int.reduceLE, Int.reduceLT, Int.reduceToNat, Nat.reduceLeDiff, UInt8.reduceOfNat, UInt8.reduceOfNatLT, and_self, Nat.reduceMul, decide_true, decide_false, Bool.not_true, Bool.not_false, implies_true]
  refine Run.loop [8] [0, 1, 6, 7] [] rfl (fun n vs bs => ∃ k : Nat, vs = [.int .i64 k] ∧ bs = [] ∧ k ≤ l.length ∧ (∀ j < k, (goesA ⟨ha, ht, al, re, un, ns, dr, co, da⟩ s m) (l.getD j attrD) = false) ∧ n = l.length - k) l.length ?_ ?_
  · simp only [push_cast, reduceIte, Nat.reduceEqDiff, Nat.reduceAdd, Nat.reduceSub, Nat.reduceLT, Int.reduceNeg, Int.reduceLE, Int.reduceLT, Int.reduceToNat, Nat.reduceLeDiff, UInt8.reduceOfNat, UInt8.reduceOfNatLT, and_self, Nat.reduceMul, decide_true, decide_false, Bool.not_true, Bool.not_false, implies_true]
    exact ⟨0, rfl, by omega, by simp, by omega⟩
  rintro n vs bs ⟨k, rfl, rfl, hk, hb, rfl⟩
  simp only [push_cast, reduceIte, Nat.reduceEqDiff, Nat.reduceAdd, Nat.reduceSub, Nat.reduceLT, Int.reduceNeg, Int.reduceLE, Int.reduceLT, Int.reduceToNat, Nat.reduceLeDiff, UInt8.reduceOfNat, UInt8.reduceOfNatLT, and_self, Nat.reduceMul, decide_true, decide_false, Bool.not_true, Bool.not_false, implies_true]
  apply vc_run 1000 (stop := false) rfl; simp only [push_cast, reduceIte, Nat.reduceEqDiff, Nat.reduceAdd, Nat.reduceSub, Nat.reduceLT, Int.reduceNeg, Int.reduceLE, Int.reduceLT, Int.reduceToNat, Nat.reduceLeDiff, UInt8.reduceOfNat, UInt8.reduceOfNatLT, and_self, Nat.reduceMul, decide_true, decide_false, Bool.not_true, Bool.not_false, implies_true]
  refine ⟨fun hlt => ?_, fun hge => ?_⟩
  · have hlt : k < l.length := by simpa using hlt
    simp only [gd_nat]
    refine ⟨by omega, ⟨hq0.2.1, fit_at hq0.2.2 hlt⟩, fun hy => ?_, fun hn => ⟨by constructor <;> omega, _, by omega, k + 1, rfl, by omega, below_step hb hn, rfl⟩⟩
    rw [findIdx_at (p := goesA ⟨ha, ht, al, re, un, ns, dr, co, da⟩ s m) hlt hb hy]; rfl
  · have hge : k = l.length := by simp at hge; omega
    subst hge
    rw [findIdx_none (p := goesA ⟨ha, ht, al, re, un, ns, dr, co, da⟩ s m) hb]; rfl)
noncomputable def sp_delA : Spec := ⟨[.sl .attr, .sc], [.tk, .rd], false, fun
  | [.own true ⟨.attr, l⟩, .fn 71 [] [.rbp [.bool ha, .bool ht, .dat ⟨.rule, al⟩, .dat ⟨.rule, re⟩, .dat ⟨.rule, un⟩, .dat ⟨.str, ns⟩, .dat ⟨.str, dr⟩, .bool co, .bool da] 0, .rbp [.int .i64 k, .int .i64 s, .str m, .str t, .dat ⟨.attr, b⟩, .dat ⟨.node, ks⟩] 0]] => some (some (l.length ≤ 1073741824 ∧ szCfg ⟨ha, ht, al, re, un, ns, dr, co, da⟩ ≤ 1048576 ∧ ∀ a ∈ l, a.name.length ≤ 65536 ∧ a.value.length ≤ 65536), .own true ⟨.attr, l.filter (keepA ⟨ha, ht, al, re, un, ns, dr, co, da⟩ s m)⟩, [])
  | _ => none⟩
@[push_cast] theorem sp_delA_ps : sp_delA.ps = [.sl .attr, .sc] := rfl
@[push_cast] theorem sp_delA_md : sp_delA.modes = [.tk, .rd] := rfl
@[push_cast] theorem sp_delA_pure : sp_delA.pure = false := rfl
@[push_cast] theorem sp_delA_run (l : List Attr) (ha ht : Bool) (al re un : List Rule) (ns dr : List Str) (co da : Bool) (k s : Int) (m t : Str) (b : List Attr) (ks : List Node) : sp_delA.run [.own true ⟨.attr, l⟩, .fn 71 [] [.rbp [.bool ha, .bool ht, .dat ⟨.rule, al⟩, .dat ⟨.rule, re⟩, .dat ⟨.rule, un⟩, .dat ⟨.str, ns⟩, .dat ⟨.str, dr⟩, .bool co, .bool da] 0, .rbp [.int .i64 k, .int .i64 s, .str m, .str t, .dat ⟨.attr, b⟩, .dat ⟨.node, ks⟩] 0]] = some (some (l.length ≤ 1073741824 ∧ szCfg ⟨ha, ht, al, re, un, ns, dr, co, da⟩ ≤ 1048576 ∧ ∀ a ∈ l, a.name.length ≤ 65536 ∧ a.value.length ≤ 65536), .own true ⟨.attr, l.filter (keepA ⟨ha, ht, al, re, un, ns, dr, co, da⟩ s m)⟩, []) := rfl
noncomputable def e_delA : Env := mk [(110, sp_idxAttrG), (71, sp_goesA)] [] [] [] none
@[push_cast] theorem e_delA_in : e_delA.inl = inlF [] := rfl
@[push_cast] theorem e_delA_fn : e_delA.fnd = fndF none := rfl
@[push_cast] theorem e_delA_gh : e_delA.gh = ghOf [] := rfl
@[push_cast] theorem e_delA_dr : e_delA.dr = drOf [] := rfl
@[push_cast] theorem e_delA_td : e_delA.td = td := rfl
@[push_cast] theorem e_delA_eqt : e_delA.eqt = eqt := rfl
@[push_cast] theorem e_delA_cal : e_delA.cal = calOf [(110, sp_idxAttrG), (71, sp_goesA)] := rfl
theorem c_delA : CRow P0 ety0 70 sp_delA := CRow.of (E := e_delA) (mkOk (.cons c_idxAttrG (.cons c_goesA (.nil)))) func70 rfl rfl rfl (by
  intro args p r outs h hq
  simp only [sp_delA] at h; split at h <;> cases h
  rename_i l ha ht al re un ns dr co da k s m t b ks
  obtain ⟨hl, hc, hx⟩ := hq _ rfl
  refine Body.intro (rs := [.tmp 4]) rfl rfl rfl ?_
  apply vc_run 1000 (stop := false) rfl; simp only [push_cast, reduceIte, Nat.reduceEqDiff, Nat.reduceAdd, Nat.reduceSub, Nat.reduceLT, Int.reduceNeg, Int.reduceLE, Int.reduceLT, Int.reduceToNat, Nat.reduceLeDiff, UInt8.reduceOfNat, UInt8.reduceOfNatLT, and_self, Nat.reduceMul, decide_true, decide_false, Bool.not_true, Bool.not_false, implies_true]
  have hp : ∀ a, goesA ⟨ha, ht, al, re, un, ns, dr, co, da⟩ s m a = !keepA ⟨ha, ht, al, re, un, ns, dr, co, da⟩ s m a := fun _ => rfl
  refine ⟨⟨hl, hc, hx⟩, fun h => ?_, fun h => ?_⟩
  · rw [del_none hp (of_decide_eq_true h)]
  obtain ⟨i0, e0, hi0⟩ := del_some (d := attrD) hp (of_decide_eq_false h)
  have hi1 := hi0.2.1
  have hi2 := hi0.2.2.1
  simp only [e0]
  clear h e0
  refine ⟨by constructor <;> omega, ?_⟩
  refine Run.loop [0, 5, 6] [1] [] rfl (fun n vs bs => ∃ (d : List Attr) (i j : Nat), vs = [.own true ⟨.attr, d⟩, .int .i64 i, .int .i64 j] ∧ bs = [] ∧ DelI (keepA ⟨ha, ht, al, re, un, ns, dr, co, da⟩ s m) l d i j ∧ n = l.length - j) (l.length - (i0 + 1)) ?_ ?_
  · simp only [push_cast, reduceIte, Nat.reduceEqDiff, Nat.reduceAdd, Nat.reduceSub, Nat.reduceLT, Int.reduceNeg, Int.reduceLE, Int.reduceLT, Int.reduceToNat, Nat.reduceLeDiff, UInt8.reduceOfNat, UInt8.reduceOfNatLT, and_self, Nat.reduceMul, decide_true, decide_false, Bool.not_true, Bool.not_false, implies_true]
    exact ⟨l, i0, i0 + 1, rfl, hi0, rfl⟩
  rintro n vs bs ⟨d, i, j, rfl, rfl, hI, rfl⟩
  simp only [push_cast, reduceIte, Nat.reduceEqDiff, Nat.reduceAdd, Nat.reduceSub, Nat.reduceLT, Int.reduceNeg, Int.reduceLE, Int.reduceLT, Int.reduceToNat, Nat.reduceLeDiff, UInt8.reduceOfNat, UInt8.reduceOfNatLT, and_self, Nat.reduceMul, decide_true, decide_false, Bool.not_true, Bool.not_false, implies_true]
  apply vc_run 1000 (stop := false) rfl; simp only [push_cast, reduceIte, Nat.reduceEqDiff, Nat.reduceAdd, Nat.reduceSub, Nat.reduceLT, Int.reduceNeg, Int.reduceLE, Int.reduceLT, Int.reduceToNat, Nat.reduceLeDiff, UInt8.reduceOfNat, UInt8.reduceOfNatLT, and_self, Nat.reduceMul, decide_true, decide_false, Bool.not_true, Bool.not_false, implies_true]
  have hdl := hI.1
  have hij := hI.2.1
  have hjl := hI.2.2.1
  refine ⟨fun hlt => ?_, fun hge => ?_⟩
  · have hlt : j < l.length := by have := of_decide_eq_true hlt; omega
    have hat := hI.at (x := attrD) hlt
    have hxj := fit_at (d := attrD) hx hlt
    simp only [gd_nat, hat, Int.toNat_natCast, hp, Bool.not_not]
    refine ⟨by omega, ⟨hc, hxj⟩, fun hy => ⟨by omega, by constructor <;> omega, by constructor <;> omega, _, ?_, _, i + 1, j + 1, rfl, hI.yes (x := attrD) hlt hy, rfl⟩, fun hn => ⟨by constructor <;> omega, _, ?_, _, i, j + 1, rfl, hI.no (x := attrD) hlt hn, rfl⟩⟩
    · omega
    · omega
  · have hge : j = l.length := by have := of_decide_eq_false hge; omega
    subst hge
    simp only [Int.toNat_natCast]
    have hl1 : (d.take i).length = i := by rw [List.length_take]; omega
    refine ⟨by omega, by rw [hl1]; omega, ?_⟩
    rw [List.take_append_of_le_length (by omega), List.take_of_length_le (by omega), hI.2.2.2.1, List.take_length])
end Go.Ab
