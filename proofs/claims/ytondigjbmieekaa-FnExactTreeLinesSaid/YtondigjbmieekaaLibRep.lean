/- strings.Repeat, by the kit's contract. -/
import Derived.Test.YtondigjbmieekaaFnC
import Derived.Test.YtondigjbmieekaaEng3
import Derived.Test.YtondigjbmieekaaShelf
set_option linter.all false
set_option linter.unusedSimpArgs false
set_option linter.unusedVariables false
set_option linter.unusedSectionVars false
set_option maxRecDepth 20000
set_option maxHeartbeats 1000000
namespace Go.Ab
open Go Go.Proofs.Try
noncomputable def sp_repS : Spec := ⟨[.sc, .sc], [.rd, .rd], true, fun
  | [.str s, .int .i64 n] => some (some (0 ≤ n ∧ n ≤ 9223372036854775807 ∧ s.length * n.toNat ≤ 140737488355328), .str (Lib.repeatL s n.toNat), [])
  | _ => none⟩
@[push_cast] theorem sp_repS_ps : sp_repS.ps = [.sc, .sc] := rfl
@[push_cast] theorem sp_repS_md : sp_repS.modes = [.rd, .rd] := rfl
@[push_cast] theorem sp_repS_pure : sp_repS.pure = true := rfl
@[push_cast] theorem sp_repS_run (s : Str) (n : Int) : sp_repS.run [.str s, .int .i64 n] = some (some (0 ≤ n ∧ n ≤ 9223372036854775807 ∧ s.length * n.toNat ≤ 140737488355328), .str (Lib.repeatL s n.toNat), []) := rfl
theorem c_repS : CRow P0 ety0 103 sp_repS := by
  refine ⟨?_, ent_of func103 rfl rfl⟩
  intro args p r outs hrun hq w R vs F hrel hR hFR hFl hG
  simp only [sp_repS] at hrun
  split at hrun <;> cases hrun
  rename_i s n
  obtain ⟨h0, h1, h2⟩ := hq _ rfl
  obtain ⟨u, v, rfl, ⟨_, g1⟩, ⟨_, g2⟩⟩ := args2 hrel
  cases relA_str g1
  have hv : v = .int .i64 n := by
    cases g2 with
    | pl c v F h _ => exact h.int_inv
  subst hv
  obtain ⟨k, rfl⟩ : ∃ k : Nat, n = k := ⟨n.toNat, by omega⟩
  have hsz : (⟨s.toArray⟩ : ByteArray).size = s.length := str_size _
  rw [Int.toNat_natCast] at h2 ⊢
  refine (Go.Proofs.Try.strings_Repeat ⟨s.toArray⟩ k w (by omega) (by rw [hsz]; exact h2)).mono fun e w' h => ?_
  exact fin_plain (P := P0) rfl hR h.1 h.2 fun X => .str _
end Go.Ab
