/- strconv.Itoa of small numbers, by the kit's contract. -/
import Derived.Test.YthncafnnekeogaaGreatDoorFnC
import Derived.Test.YthncafnnekeogaaGreatDoorEng4
import Derived.Test.YthncafnnekeogaaGreatDoorShelf
set_option linter.all false
set_option linter.unusedSimpArgs false
set_option linter.unusedVariables false
set_option linter.unusedSectionVars false
set_option maxRecDepth 20000
set_option maxHeartbeats 1000000
namespace Go.Ab
open Go Go.Proofs.Tryz
/-- The digits of a small number. -/
def dg (n : Int) : Str := Lib.decDigits n.toNat
noncomputable def sp_itoa : Spec := ⟨[.sc], [.rd], true, fun
  | [.int .i64 n] => some (some (0 ≤ n ∧ n < 100), .str (dg n), [])
  | _ => none⟩
@[push_cast] theorem sp_itoa_ps : sp_itoa.ps = [.sc] := rfl
@[push_cast] theorem sp_itoa_md : sp_itoa.modes = [.rd] := rfl
@[push_cast] theorem sp_itoa_pure : sp_itoa.pure = true := rfl
@[push_cast] theorem sp_itoa_run (n : Int) : sp_itoa.run [.int .i64 n] = some (some (0 ≤ n ∧ n < 100), .str (dg n), []) := rfl
theorem c_itoa : CRow P0 ety0 122 sp_itoa := by
  refine ⟨?_, ent_of func122 rfl rfl⟩
  intro args p r outs hrun hq w R vs F hrel hR hFR hFl hG
  simp only [sp_itoa] at hrun
  split at hrun <;> cases hrun
  rename_i n
  obtain ⟨h0, h1⟩ := hq _ rfl
  obtain ⟨u, rfl, ⟨_, h⟩⟩ := args1 hrel
  cases relA_int h
  obtain ⟨i, rfl⟩ : ∃ i : Nat, n = i := ⟨n.toNat, by omega⟩
  refine (Go.Proofs.Tryz.strconv_Itoa_small i (by omega) w).mono fun e w' h => ?_
  obtain ⟨he, rfl⟩ := h
  exact fin_plain (P := P0) rfl hR he (Go.RowKit.Below.refl _ _) fun X => .str _
theorem dg_one {n : Int} (h0 : 0 ≤ n) (h : n < 10) : dg n = [UInt8.ofNat (48 + n.toNat)] := Lib.decDigits_one (by omega)
theorem dg_two {n : Int} (h0 : 10 ≤ n) (h : n < 100) : dg n = [UInt8.ofNat (48 + n.toNat / 10), UInt8.ofNat (48 + n.toNat % 10)] := Lib.decDigits_two (by omega) (by omega)
theorem dg_len (n : Int) (h : n < 100) : (dg n).length ≤ 2 := by
  by_cases h1 : n.toNat < 10
  · have : dg n = [UInt8.ofNat (48 + n.toNat)] := Lib.decDigits_one h1
    rw [this]; simp
  · rw [show dg n = [UInt8.ofNat (48 + n.toNat / 10), UInt8.ofNat (48 + n.toNat % 10)] from Lib.decDigits_two h1 (by omega)]; simp
noncomputable def sp_dig1 : Spec := ⟨[.sc], [.rd], true, fun
  | [.int .i64 n] => some (some (0 ≤ n ∧ n < 10), .str (dg n), [])
  | _ => none⟩
@[push_cast] theorem sp_dig1_ps : sp_dig1.ps = [.sc] := rfl
@[push_cast] theorem sp_dig1_md : sp_dig1.modes = [.rd] := rfl
@[push_cast] theorem sp_dig1_pure : sp_dig1.pure = true := rfl
@[push_cast] theorem sp_dig1_run (n : Int) : sp_dig1.run [.int .i64 n] = some (some (0 ≤ n ∧ n < 10), .str (dg n), []) := rfl
end Go.Ab
