/- strconv.Itoa of small numbers, by the kit's contract. -/
import Derived.Test.YtkandginbnlpcaaDoorFnC
import Derived.Test.YtkandginbnlpcaaDoorEng3
import Derived.Test.YtkandginbnlpcaaDoorShelf
set_option linter.all false
set_option linter.unusedSimpArgs false
set_option linter.unusedVariables false
set_option linter.unusedSectionVars false
set_option maxRecDepth 20000
set_option maxHeartbeats 1000000
namespace Go.Ab
open Go Go.Proofs.Tryd
/-- The digits of a small number. -/
def dg (n : Int) : Str := Lib.decDigits n.toNat
noncomputable def sp_itoa : Spec := ⟨[.sc], [.rd], true, fun
  | [.int .i64 n] => some (some (0 ≤ n ∧ n < 100), .str (dg n), [])
  | _ => none⟩
@[push_cast] theorem sp_itoa_ps : sp_itoa.ps = [.sc] := rfl
@[push_cast] theorem sp_itoa_md : sp_itoa.modes = [.rd] := rfl
@[push_cast] theorem sp_itoa_pure : sp_itoa.pure = true := rfl
@[push_cast] theorem sp_itoa_run (n : Int) : sp_itoa.run [.int .i64 n] = some (some (0 ≤ n ∧ n < 100), .str (dg n), []) := rfl
theorem c_itoa : CRow P0 ety0 29 sp_itoa := by
  refine ⟨?_, ent_of func29 rfl rfl⟩
  intro args p r outs hrun hq w R vs F hrel hR hFR hFl hG
  simp only [sp_itoa] at hrun
  split at hrun <;> cases hrun
  rename_i n
  obtain ⟨h0, h1⟩ := hq _ rfl
  obtain ⟨u, rfl, ⟨_, h⟩⟩ := args1 hrel
  cases relA_int h
  obtain ⟨i, rfl⟩ : ∃ i : Nat, n = i := ⟨n.toNat, by omega⟩
  refine (Go.Proofs.Tryd.strconv_Itoa_small i (by omega) w).mono fun e w' h => ?_
  obtain ⟨he, rfl⟩ := h
  exact fin_plain (P := P0) rfl hR he (Go.RowKit.Below.refl _ _) fun X => .str _
theorem dg_one {n : Int} (h0 : 0 ≤ n) (h : n < 10) : dg n = [UInt8.ofNat (48 + n.toNat)] := Lib.decDigits_one (by omega)
theorem dg_two {n : Int} (h0 : 10 ≤ n) (h : n < 100) : dg n = [UInt8.ofNat (48 + n.toNat / 10), UInt8.ofNat (48 + n.toNat % 10)] := Lib.decDigits_two (by omega) (by omega)
theorem dg_len (n : Int) (h : n < 100) : (dg n).length ≤ 2 := by
  by_cases h1 : n.toNat < 10
  · have : dg n = [UInt8.ofNat (48 + n.toNat)] := Lib.decDigits_one h1
    rw [this]; simp
  · rw [show dg n = [UInt8.ofNat (48 + n.toNat / 10), UInt8.ofNat (48 + n.toNat % 10)] from Lib.decDigits_two h1 (by omega)]; simp
noncomputable def sp_dig1 : Spec := ⟨[.sc], [.rd], true, fun
  | [.int .i64 n] => some (some (0 ≤ n ∧ n < 10), .str (dg n), [])
  | _ => none⟩
@[push_cast] theorem sp_dig1_ps : sp_dig1.ps = [.sc] := rfl
@[push_cast] theorem sp_dig1_md : sp_dig1.modes = [.rd] := rfl
@[push_cast] theorem sp_dig1_pure : sp_dig1.pure = true := rfl
@[push_cast] theorem sp_dig1_run (n : Int) : sp_dig1.run [.int .i64 n] = some (some (0 ≤ n ∧ n < 10), .str (dg n), []) := rfl
noncomputable def e_dig1 : Env := mk [] [(7, [7], [[1], [1], [1]])] []
@[push_cast] theorem e_dig1_gh : e_dig1.gh = ghOf [] := rfl
@[push_cast] theorem e_dig1_dr : e_dig1.dr = drOf [(7, [7], [[1], [1], [1]])] := rfl
@[push_cast] theorem e_dig1_td : e_dig1.td = td := rfl
@[push_cast] theorem e_dig1_eqt : e_dig1.eqt = eqt := rfl
@[push_cast] theorem e_dig1_cal : e_dig1.cal = calOf [] := rfl
theorem c_dig1 : CRow P0 ety0 24 sp_dig1 := CRow.of (E := e_dig1) (mkOk (.nil)) func24 rfl rfl rfl (by
  intro args p r outs h hq
  simp only [sp_dig1] at h; split at h <;> cases h
  rename_i n
  obtain ⟨h0, h1⟩ := hq _ rfl
  refine Body.intro (rs := [.tmp 2]) rfl rfl rfl ?_
  apply vc_run 1000 (stop := false) rfl; simp only [push_cast, reduceIte, Nat.reduceEqDiff, Nat.reduceAdd, Nat.reduceSub, Nat.reduceLT, Int.reduceNeg, Int.reduceLE, Int.reduceLT, Int.reduceToNat, Nat.reduceLeDiff, UInt8.reduceOfNat, UInt8.reduceOfNatLT, and_self, Nat.reduceMul, decide_true, decide_false, Bool.not_true, Bool.not_false, implies_true]
  refine ⟨fun h => ?_, fun _ => ⟨fun h => ?_, fun _ => ⟨fun h => ?_, fun h => ?_⟩⟩⟩
  · have := of_decide_eq_true h; omega
  · have := of_decide_eq_true h; omega
  · rw [dg_one h0 h1]
    have e : (48 + n).toNat = 48 + n.toNat := by omega
    rw [e]
    exact ⟨by constructor <;> omega, by constructor <;> omega, rfl⟩
  · have := of_decide_eq_false h; omega)
noncomputable def e_dig2 : Env := mk [(24, sp_dig1)] [(7, [7], [[1], [1], [1]])] []
@[push_cast] theorem e_dig2_gh : e_dig2.gh = ghOf [] := rfl
@[push_cast] theorem e_dig2_dr : e_dig2.dr = drOf [(7, [7], [[1], [1], [1]])] := rfl
@[push_cast] theorem e_dig2_td : e_dig2.td = td := rfl
@[push_cast] theorem e_dig2_eqt : e_dig2.eqt = eqt := rfl
@[push_cast] theorem e_dig2_cal : e_dig2.cal = calOf [(24, sp_dig1)] := rfl
theorem c_dig2 : CRow P0 ety0 24 sp_itoa := CRow.of (E := e_dig2) (mkOk (.cons c_dig1 (.nil))) func24 rfl rfl rfl (by
  intro args p r outs h hq
  simp only [sp_itoa] at h; split at h <;> cases h
  rename_i n
  obtain ⟨h0, h1⟩ := hq _ rfl
  refine Body.intro (rs := [.tmp 2]) rfl rfl rfl ?_
  apply vc_run 1000 (stop := false) rfl; simp only [push_cast, reduceIte, Nat.reduceEqDiff, Nat.reduceAdd, Nat.reduceSub, Nat.reduceLT, Int.reduceNeg, Int.reduceLE, Int.reduceLT, Int.reduceToNat, Nat.reduceLeDiff, UInt8.reduceOfNat, UInt8.reduceOfNatLT, and_self, Nat.reduceMul, decide_true, decide_false, Bool.not_true, Bool.not_false, implies_true]
  refine ⟨fun h => ?_, fun _ => ⟨fun h => ?_, fun _ => ⟨fun h => ?_, fun h => ?_⟩⟩⟩
  · have := of_decide_eq_true h; omega
  · have := of_decide_eq_true h; omega
  · have h := of_decide_eq_true h
    rw [dg_one h0 h]
    have e : (48 + n).toNat = 48 + n.toNat := by omega
    rw [e]
    exact ⟨by constructor <;> omega, by constructor <;> omega, rfl⟩
  · have h := of_decide_eq_false h
    have hl := dg_len (n / 10) (by omega)
    refine ⟨by omega, by omega, h0, by constructor <;> omega, by constructor <;> omega, by omega, ?_⟩
    rw [dg_two (by omega) h1, dg_one (by omega) (by omega)]
    have e1 : (48 + n % 10).toNat = 48 + n.toNat % 10 := by omega
    have e2 : (n / 10).toNat = n.toNat / 10 := by omega
    rw [e1, e2]; rfl)
end Go.Ab
