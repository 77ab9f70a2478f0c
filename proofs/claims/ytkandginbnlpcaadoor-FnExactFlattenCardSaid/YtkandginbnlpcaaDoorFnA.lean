/- Answers: numbers within bounds, long texts. -/
import Derived.Test.YtkandginbnlpcaaDoorEngTd
set_option linter.all false
set_option linter.unusedSimpArgs false
set_option linter.unusedVariables false
set_option linter.unusedSectionVars false
set_option maxRecDepth 20000
set_option maxHeartbeats 1000000
namespace Go.Ab
open Go Go.Proofs.Tryd
def within (n a b : Int) : Bool := decide (a ≤ n) && decide (n ≤ b)
theorem within_bif (n a b : Int) : (bif decide (a ≤ n) then decide (n ≤ b) else false) = within n a b := by
  unfold within; cases decide (a ≤ n) <;> rfl
noncomputable def sp_within : Spec := ⟨[.sc, .sc, .sc], [.rd, .rd, .rd], true, fun
  | [.int .i64 n, .int .i64 a, .int .i64 b] => some (none, .bool (within n a b), [])
  | _ => none⟩
@[push_cast] theorem sp_within_ps : sp_within.ps = [.sc, .sc, .sc] := rfl
@[push_cast] theorem sp_within_md : sp_within.modes = [.rd, .rd, .rd] := rfl
@[push_cast] theorem sp_within_pure : sp_within.pure = true := rfl
@[push_cast] theorem sp_within_run (n a b : Int) : sp_within.run [.int .i64 n, .int .i64 a, .int .i64 b] = some (none, .bool (within n a b), []) := rfl
noncomputable def e_within : Env := mk [] [] []
@[push_cast] theorem e_within_gh : e_within.gh = ghOf [] := rfl
@[push_cast] theorem e_within_dr : e_within.dr = drOf [] := rfl
@[push_cast] theorem e_within_td : e_within.td = td := rfl
@[push_cast] theorem e_within_eqt : e_within.eqt = eqt := rfl
@[push_cast] theorem e_within_cal : e_within.cal = calOf [] := rfl
theorem c_within : CRow P0 ety0 51 sp_within := CRow.of (E := e_within) (mkOk (.nil)) func51 rfl rfl rfl (by
  intro args p r outs h hq
  simp only [sp_within] at h; split at h <;> cases h
  refine Body.intro (rs := [.tmp 6]) rfl rfl rfl ?_
  apply vc_run 1000 (stop := false) rfl; simp only [push_cast, reduceIte, Nat.reduceEqDiff, Nat.reduceAdd, Nat.reduceSub, Nat.reduceLT, Int.reduceNeg, Int.reduceLE, Int.reduceLT, Int.reduceToNat, Nat.reduceLeDiff, UInt8.reduceOfNat, UInt8.reduceOfNatLT, and_self, Nat.reduceMul, decide_true, decide_false, Bool.not_true, Bool.not_false, implies_true]
  simp [within])
noncomputable def e_within2 : Env := mk [] [] []
@[push_cast] theorem e_within2_gh : e_within2.gh = ghOf [] := rfl
@[push_cast] theorem e_within2_dr : e_within2.dr = drOf [] := rfl
@[push_cast] theorem e_within2_td : e_within2.td = td := rfl
@[push_cast] theorem e_within2_eqt : e_within2.eqt = eqt := rfl
@[push_cast] theorem e_within2_cal : e_within2.cal = calOf [] := rfl
theorem c_within2 : CRow P0 ety0 46 sp_within := CRow.of (E := e_within2) (mkOk (.nil)) func46 rfl rfl rfl (by
  intro args p r outs h hq
  simp only [sp_within] at h; split at h <;> cases h
  refine Body.intro (rs := [.tmp 6]) rfl rfl rfl ?_
  apply vc_run 1000 (stop := false) rfl; simp only [push_cast, reduceIte, Nat.reduceEqDiff, Nat.reduceAdd, Nat.reduceSub, Nat.reduceLT, Int.reduceNeg, Int.reduceLE, Int.reduceLT, Int.reduceToNat, Nat.reduceLeDiff, UInt8.reduceOfNat, UInt8.reduceOfNatLT, and_self, Nat.reduceMul, decide_true, decide_false, Bool.not_true, Bool.not_false, implies_true]
  simp [within])
abbrev big (t : Str) : Bool := decide (65536 < t.length)
noncomputable def sp_isLong1 : Spec := ⟨[.sc], [.rd], true, fun
  | [.str t] => some (none, .bool (big t), [])
  | _ => none⟩
@[push_cast] theorem sp_isLong1_ps : sp_isLong1.ps = [.sc] := rfl
@[push_cast] theorem sp_isLong1_md : sp_isLong1.modes = [.rd] := rfl
@[push_cast] theorem sp_isLong1_pure : sp_isLong1.pure = true := rfl
@[push_cast] theorem sp_isLong1_run (t : Str) : sp_isLong1.run [.str t] = some (none, .bool (big t), []) := rfl
theorem big_int (t : Str) : decide ((65536 : Int) < (t.length : Nat)) = big t := by simp [big]; omega
def idx (o : Option Nat) : Int := match o with
  | some i => i
  | none => -1
theorem findIdx_at {α : Type} {l : List α} {p : α → Bool} {d : α} {k : Nat} (h : k < l.length) (hb : ∀ j < k, p (l.getD j d) = false) (hk : p (l.getD k d) = true) : l.findIdx? p = some k := by
  rw [List.findIdx?_eq_some_iff_getElem]
  refine ⟨h, by simpa [List.getD, h] using hk, fun j hj => ?_⟩
  have := hb j hj
  have hj' : j < l.length := by omega
  simpa [List.getD, hj'] using this
theorem findIdx_none {α : Type} {l : List α} {p : α → Bool} {d : α} (hb : ∀ j < l.length, p (l.getD j d) = false) : l.findIdx? p = none := by
  rw [List.findIdx?_eq_none_iff]
  intro x hx
  obtain ⟨j, hj, rfl⟩ := List.mem_iff_getElem.1 hx
  have := hb j hj
  simpa [List.getD, hj] using this
theorem idx_any {α : Type} (l : List α) (p : α → Bool) : decide (0 ≤ idx (l.findIdx? p)) = l.any p := by
  cases h : l.findIdx? p with
  | none =>
    have : l.any p = false := by rw [List.any_eq_false]; intro x hx; simpa using List.findIdx?_eq_none_iff.1 h x hx
    rw [this]; rfl
  | some i =>
    have : l.any p = true := by
      obtain ⟨h1, h2, _⟩ := List.findIdx?_eq_some_iff_getElem.1 h
      rw [List.any_eq_true]; exact ⟨_, List.getElem_mem h1, h2⟩
    rw [this]; simp [idx]
def isLong (l : List Str) : Bool := l.any big
theorem isLong_one (t : Str) : isLong [t] = big t := by simp [isLong]
noncomputable def sp_isLong : Spec := ⟨[.sl .str], [.rd], true, fun
  | [.dat ⟨.str, l⟩] => some (some (l.length ≤ 1073741824), .bool (isLong l), [])
  | _ => none⟩
@[push_cast] theorem sp_isLong_ps : sp_isLong.ps = [.sl .str] := rfl
@[push_cast] theorem sp_isLong_md : sp_isLong.modes = [.rd] := rfl
@[push_cast] theorem sp_isLong_pure : sp_isLong.pure = true := rfl
@[push_cast] theorem sp_isLong_run (l : List Str) : sp_isLong.run [.dat ⟨.str, l⟩] = some (some (l.length ≤ 1073741824), .bool (isLong l), []) := rfl
@[push_cast] theorem sp_isLong_any : sp_isLong.run [.any] = none := rfl
end Go.Ab
