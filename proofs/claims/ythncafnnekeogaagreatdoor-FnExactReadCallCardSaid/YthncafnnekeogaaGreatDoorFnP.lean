/- Paths and their texts. -/
import Derived.Test.YthncafnnekeogaaGreatDoorFnPp
import Derived.Test.YthncafnnekeogaaGreatDoorLibJoin
import Derived.Test.YthncafnnekeogaaGreatDoorLibItoa
set_option linter.all false
set_option linter.unusedSimpArgs false
set_option linter.unusedVariables false
set_option linter.unusedSectionVars false
set_option maxRecDepth 20000
set_option maxHeartbeats 1000000
namespace Go.Ab
open Go Go.Proofs.Tryz
def pathText (l : List Int) : Str := if l = [] then [45] else joinS (l.map dg) [46]
theorem len0 {l : List Int} (h : decide ((l.length : Int) = 0) = true) : l = [] := by
  have h : (l.length : Int) = 0 := of_decide_eq_true h
  exact List.length_eq_zero_iff.1 (by omega)
theorem len1 {l : List Int} (h : decide ((l.length : Int) = 0) = false) : l ≠ [] := by
  rintro rfl; simp at h
theorem path_step {l : List Int} {k : Nat} (h : k < l.length) : joinS ((l.take (k + 1)).map dg) [46] = (if 0 < k then joinS ((l.take k).map dg) [46] ++ [46] else []) ++ dg (l.getD k 0) := by
  rw [List.take_succ_eq_append_getElem h, List.map_append, List.map_singleton, joinS_snoc, List.length_map, List.length_take]
  have e : l.getD k 0 = l[k] := by simp [List.getD, h]
  rw [e, Nat.min_eq_left (by omega)]
theorem digits_le {l : List Int} (h : isPath l = true) (k : Nat) : (joinS ((l.take k).map dg) [46]).length ≤ 30 := by
  obtain ⟨h1, h2⟩ := isPath_in h
  have key : ∀ l : List Int, (∀ x ∈ l, x ≤ 60) → (joinS (l.map dg) [46]).length ≤ 3 * l.length := by
    intro l hl
    have h1 := joinS_le (l.map dg) [46]
    have h2 : sumL List.length (l.map dg) ≤ 2 * l.length := by
      clear h1
      induction l with
      | nil => simp [sumL]
      | cons x l ih =>
        have e1 : sumL List.length ((x :: l).map dg) = (dg x).length + sumL List.length (l.map dg) := by simp [sumL]
        have := dg_len x (by have := hl x List.mem_cons_self; omega)
        have := ih fun y hy => hl y (List.mem_cons_of_mem _ hy)
        rw [e1, List.length_cons]; omega
    rw [List.length_map] at h1
    simp only [List.length_cons, List.length_nil] at h1
    omega
  have := key (l.take k) fun x hx => (h2 x (List.mem_of_mem_take hx)).2
  rw [List.length_take] at this
  omega
noncomputable def sp_pathText : Spec := ⟨[.sl .int], [.rd], true, fun
  | [.dat ⟨.int, l⟩] => some (some (isPath l = true), .str (pathText l), [])
  | _ => none⟩
@[push_cast] theorem sp_pathText_ps : sp_pathText.ps = [.sl .int] := rfl
@[push_cast] theorem sp_pathText_md : sp_pathText.modes = [.rd] := rfl
@[push_cast] theorem sp_pathText_pure : sp_pathText.pure = true := rfl
@[push_cast] theorem sp_pathText_run (l : List Int) : sp_pathText.run [.dat ⟨.int, l⟩] = some (some (isPath l = true), .str (pathText l), []) := rfl
noncomputable def e_pathText : Env := mk [(122, sp_itoa), (169, sp_join)] [] [] [] none
@[push_cast] theorem e_pathText_in : e_pathText.inl = inlF [] := rfl
@[push_cast] theorem e_pathText_fn : e_pathText.fnd = fndF none := rfl
@[push_cast] theorem e_pathText_gh : e_pathText.gh = ghOf [] := rfl
@[push_cast] theorem e_pathText_dr : e_pathText.dr = drOf [] := rfl
@[push_cast] theorem e_pathText_td : e_pathText.td = td := rfl
@[push_cast] theorem e_pathText_eqt : e_pathText.eqt = eqt := rfl
@[push_cast] theorem e_pathText_cal : e_pathText.cal = calOf [(122, sp_itoa), (169, sp_join)] := rfl
theorem c_pathText : CRow P0 ety0 126 sp_pathText := CRow.of (E := e_pathText) (mkOk (.cons c_itoa (.cons c_join (.nil)))) func126 rfl rfl rfl (by
  intro args p r outs h hq
  simp only [sp_pathText] at h; split at h <;> cases h
  rename_i l
  have hp := hq _ rfl
  refine Body.intro (rs := [.tmp 2]) rfl rfl rfl ?_
  apply vc_run 1000 (stop := false) rfl; simp only [push_cast, reduceIte, Nat.reduceEqDiff, Nat.reduceAdd, Nat.reduceSub, Nat.reduceLT, Int.reduceNeg, Int.reduceLE, Int.reduceLT, Int.reduceToNat, Nat.reduceLeDiff, UInt8.reduceOfNat, UInt8.reduceOfNatLT, and_self, Nat.reduceMul, decide_true, decide_false, Bool.not_true, Bool.not_false, implies_true]
  obtain ⟨hp1, hp2⟩ := isPath_in hp
  have hj := digits_le hp l.length
  rw [List.take_length] at hj
  refine ⟨fun h => ?_, fun h => ?_⟩
  · rw [len0 h]; rfl
  have h := len1 h
  refine Run.loop [3, 12] [0, 10, 11] [] rfl (fun n vs bs => ∃ k : Nat, vs = [.own true ⟨.str, (l.take k).map dg⟩, .int .i64 k] ∧ bs = [] ∧ k ≤ l.length ∧ n = l.length - k) l.length ?_ ?_
  · simp only [push_cast, reduceIte, Nat.reduceEqDiff, Nat.reduceAdd, Nat.reduceSub, Nat.reduceLT, Int.reduceNeg, Int.reduceLE, Int.reduceLT, Int.reduceToNat, Nat.reduceLeDiff, UInt8.reduceOfNat, UInt8.reduceOfNatLT, and_self, Nat.reduceMul, decide_true, decide_false, Bool.not_true, Bool.not_false, implies_true]
    exact ⟨0, rfl, by omega, by omega⟩
  rintro n vs bs ⟨k, rfl, rfl, hk, rfl⟩
  simp only [push_cast, reduceIte, Nat.reduceEqDiff, Nat.reduceAdd, Nat.reduceSub, Nat.reduceLT, Int.reduceNeg, Int.reduceLE, Int.reduceLT, Int.reduceToNat, Nat.reduceLeDiff, UInt8.reduceOfNat, UInt8.reduceOfNatLT, and_self, Nat.reduceMul, decide_true, decide_false, Bool.not_true, Bool.not_false, implies_true]
  apply vc_run 1000 (stop := false) rfl; simp only [push_cast, reduceIte, Nat.reduceEqDiff, Nat.reduceAdd, Nat.reduceSub, Nat.reduceLT, Int.reduceNeg, Int.reduceLE, Int.reduceLT, Int.reduceToNat, Nat.reduceLeDiff, UInt8.reduceOfNat, UInt8.reduceOfNatLT, and_self, Nat.reduceMul, decide_true, decide_false, Bool.not_true, Bool.not_false, implies_true]
  refine ⟨fun hlt => ?_, fun hge => ?_⟩
  · have hlt : k < l.length := Int.ofNat_lt.1 (of_decide_eq_true hlt)
    have hx := fit_at (d := (0 : Int)) hp2 hlt
    simp only [gd_nat, List.length_map, List.length_take]
    refine ⟨by omega, by omega, by first | omega | (unfold sizeOk; omega) | (constructor <;> omega), by constructor <;> omega, _, by omega, k + 1, ?_, by omega, rfl⟩
    rw [List.take_succ_eq_append_getElem hlt, List.map_append]
    have e : l.getD k 0 = l[k] := by simp [List.getD, hlt]
    rw [e]; rfl
  · have hge : k = l.length := by have := of_decide_eq_false hge; omega
    subst hge
    rw [List.take_length, List.length_map, pathText, if_neg h]
    exact ⟨⟨by omega, by omega⟩, rfl⟩)
def PathText (l : List Int) : Str × Int := if 4096 < l.length then ([], 2) else if isPath l then (pathText l, 0) else ([], 1)
noncomputable def sp_PathText : Spec := ⟨[.sl .int], [.rd], true, fun
  | [.dat ⟨.int, l⟩] => some (some (l.length ≤ 1048576), .tup [.str (PathText l).1, .int .i64 (PathText l).2], [])
  | _ => none⟩
@[push_cast] theorem sp_PathText_ps : sp_PathText.ps = [.sl .int] := rfl
@[push_cast] theorem sp_PathText_md : sp_PathText.modes = [.rd] := rfl
@[push_cast] theorem sp_PathText_pure : sp_PathText.pure = true := rfl
@[push_cast] theorem sp_PathText_run (l : List Int) : sp_PathText.run [.dat ⟨.int, l⟩] = some (some (l.length ≤ 1048576), .tup [.str (PathText l).1, .int .i64 (PathText l).2], []) := rfl
noncomputable def sp_lawPathText : Spec := ⟨[.sl .int], [.rd], true, fun
  | [.dat ⟨.int, l⟩] => some (some (l.length ≤ 9223372036854775807), .bool true, [])
  | _ => none⟩
@[push_cast] theorem sp_lawPathText_ps : sp_lawPathText.ps = [.sl .int] := rfl
@[push_cast] theorem sp_lawPathText_md : sp_lawPathText.modes = [.rd] := rfl
@[push_cast] theorem sp_lawPathText_pure : sp_lawPathText.pure = true := rfl
@[push_cast] theorem sp_lawPathText_run (l : List Int) : sp_lawPathText.run [.dat ⟨.int, l⟩] = some (some (l.length ≤ 9223372036854775807), .bool true, []) := rfl
end Go.Ab
