/- strings.Join, by the kit's contract. -/
import Derived.Test.YtmofbeofijlofaaFnC
import Derived.Test.YtmofbeofijlofaaEng3
import Derived.Test.YtmofbeofijlofaaShelf
set_option linter.all false
set_option linter.unusedSimpArgs false
set_option linter.unusedVariables false
set_option linter.unusedSectionVars false
set_option maxRecDepth 20000
set_option maxHeartbeats 1000000
namespace Go.Ab
open Go Go.Proofs.Try
noncomputable def sp_join : Spec := ⟨[.sl .str, .sc], [.rd, .rd], true, fun
  | [.dat ⟨.str, l⟩, .str sep] => some (some (l.length ≤ 1073741824 ∧ (joinS l sep).length ≤ 140737488355328), .str (joinS l sep), [])
  | _ => none⟩
@[push_cast] theorem sp_join_ps : sp_join.ps = [.sl .str, .sc] := rfl
@[push_cast] theorem sp_join_md : sp_join.modes = [.rd, .rd] := rfl
@[push_cast] theorem sp_join_pure : sp_join.pure = true := rfl
@[push_cast] theorem sp_join_run (l : List Str) (sep : Str) : sp_join.run [.dat ⟨.str, l⟩, .str sep] = some (some (l.length ≤ 1073741824 ∧ (joinS l sep).length ≤ 140737488355328), .str (joinS l sep), []) := rfl
theorem c_join : CRow P0 ety0 83 sp_join := by
  refine ⟨?_, ent_of func83 rfl rfl⟩
  intro args p r outs hrun hq w R vs F hrel hR hFR hFl
  simp only [sp_join] at hrun
  split at hrun <;> cases hrun
  rename_i l sep
  obtain ⟨hl, hj⟩ := hq _ rfl
  obtain ⟨u, v, rfl, ⟨_, h1⟩, ⟨_, h2⟩⟩ := args2 hrel
  cases relA_str h2
  obtain ⟨A, cap, rfl, hcap, hcells⟩ := rep_strs (relA_dat h1)
  by_cases hne : l = []
  · subst hne
    refine (Go.Proofs.Try.strings_Join_none A cap ⟨sep.toArray⟩ w).mono fun e w' h => ?_
    obtain ⟨he, rfl⟩ := h
    exact fin_plain (P := P0) rfl hR he (Go.RowKit.Below.refl _ _) fun X => .str []
  · obtain ⟨b, o, rfl, hRb, hc⟩ := hcells hne
    have hx : (l.map fun s => (⟨s.toArray⟩ : ByteArray)).map (·.data.toList) = l := by rw [List.map_map]; simp [Function.comp_def]
    have hlen : (l.map fun s => (⟨s.toArray⟩ : ByteArray)).length = l.length := List.length_map _
    have key := Go.Proofs.Try.strings_Join b o cap (l.map fun s => (⟨s.toArray⟩ : ByteArray)) ⟨sep.toArray⟩ w (fun j x hx => by
      rw [List.getElem?_map] at hx
      cases hlj : l[j]? with
      | none => rw [hlj] at hx; cases hx
      | some s => rw [hlj] at hx; cases hx; exact hc j s hlj) (hR b hRb) (by rw [hlen]; omega) (by rw [hlen]; exact hcap) (by rw [hx]; exact hj)
    rw [hlen] at key
    refine key.mono fun e w' h => ?_
    obtain ⟨he, hb⟩ := h
    rw [hx] at he
    exact fin_plain (P := P0) rfl hR he hb fun X => .str _
end Go.Ab
