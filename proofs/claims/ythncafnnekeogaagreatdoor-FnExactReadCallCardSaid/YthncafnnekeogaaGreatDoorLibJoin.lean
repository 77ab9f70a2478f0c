/- strings.Join, by the kit's contract. -/
import Derived.Test.YthncafnnekeogaaGreatDoorFnC
import Derived.Test.YthncafnnekeogaaGreatDoorEng4
import Derived.Test.YthncafnnekeogaaGreatDoorShelf
set_option linter.all false
set_option linter.unusedSimpArgs false
set_option linter.unusedVariables false
set_option linter.unusedSectionVars false
set_option maxRecDepth 20000
set_option maxHeartbeats 1000000
namespace Go.Ab
open Go Go.Proofs.Tryz
noncomputable def sp_join : Spec := ⟨[.sl .str, .sc], [.rd, .rd], true, fun
  | [.dat ⟨.str, l⟩, .str sep] => some (some (l.length ≤ 1073741824 ∧ (joinS l sep).length ≤ 140737488355328), .str (joinS l sep), [])
  | _ => none⟩
@[push_cast] theorem sp_join_ps : sp_join.ps = [.sl .str, .sc] := rfl
@[push_cast] theorem sp_join_md : sp_join.modes = [.rd, .rd] := rfl
@[push_cast] theorem sp_join_pure : sp_join.pure = true := rfl
@[push_cast] theorem sp_join_run (l : List Str) (sep : Str) : sp_join.run [.dat ⟨.str, l⟩, .str sep] = some (some (l.length ≤ 1073741824 ∧ (joinS l sep).length ≤ 140737488355328), .str (joinS l sep), []) := rfl
theorem c_join : CRow P0 ety0 169 sp_join := by
  refine ⟨?_, ent_of func169 rfl rfl⟩
  intro args p r outs hrun hq w R vs F hrel hR hFR hFl hG
  simp only [sp_join] at hrun
  split at hrun <;> cases hrun
  rename_i l sep
  obtain ⟨hl, hj⟩ := hq _ rfl
  obtain ⟨u, v, rfl, ⟨_, h1⟩, ⟨_, h2⟩⟩ := args2 hrel
  cases relA_str h2
  obtain ⟨A, cap, rfl, hcap, hcells⟩ := rep_strs (relA_dat h1)
  by_cases hne : l = []
  · subst hne
    refine (Go.Proofs.Tryz.strings_Join_none A cap ⟨sep.toArray⟩ w).mono fun e w' h => ?_
    obtain ⟨he, rfl⟩ := h
    exact fin_plain (P := P0) rfl hR he (Go.RowKit.Below.refl _ _) fun X => .str []
  · obtain ⟨b, o, rfl, hRb, hc⟩ := hcells hne
    have hx : (l.map fun s => (⟨s.toArray⟩ : ByteArray)).map (·.data.toList) = l := by rw [List.map_map]; simp [Function.comp_def]
    have hlen : (l.map fun s => (⟨s.toArray⟩ : ByteArray)).length = l.length := List.length_map _
    have key := Go.Proofs.Tryz.strings_Join b o cap (l.map fun s => (⟨s.toArray⟩ : ByteArray)) ⟨sep.toArray⟩ w (fun j x hx => by
      rw [List.getElem?_map] at hx
      cases hlj : l[j]? with
      | none => rw [hlj] at hx; cases hx
      | some s => rw [hlj] at hx; cases hx; exact hc j s hlj) (hR b hRb) (by rw [hlen]; omega) (by rw [hlen]; exact hcap) (by rw [hx]; exact hj)
    rw [hlen] at key
    refine key.mono fun e w' h => ?_
    obtain ⟨he, hb⟩ := h
    rw [hx] at he
    exact fin_plain (P := P0) rfl hR he hb fun X => .str _
theorem joinS_snoc (l : List Str) (x sep : Str) : joinS (l ++ [x]) sep = (if 0 < l.length then joinS l sep ++ sep else []) ++ x := by
  have h := joinS_take (l := l ++ [x]) (sep := sep) (k := l.length) (by simp)
  rw [show (l ++ [x]).take (l.length + 1) = l ++ [x] from List.take_of_length_le (by simp)] at h
  rw [h]
  simp [List.getD]
theorem joinS_take_le (l : List Str) (sep : Str) (k : Nat) : (joinS (l.take k) sep).length ≤ (joinS l sep).length := by
  have key : ∀ n, ∀ k ≤ n, n ≤ l.length → (joinS (l.take k) sep).length ≤ (joinS (l.take n) sep).length := by
    intro n
    induction n with
    | zero => intro k hk _; rw [Nat.le_zero.1 hk]; exact Nat.le_refl _
    | succ n ih =>
      intro k hk hn
      rcases Nat.lt_or_eq_of_le hk with h | rfl
      · have := ih k (by omega) (by omega)
        rw [joinS_take (by omega)]
        split
        · simp only [List.length_append]; omega
        · have h0 : n = 0 := by omega
          subst h0
          simp [joinS_nil] at this
          rw [this]; exact Nat.zero_le _
      · exact Nat.le_refl _
  by_cases h : k ≤ l.length
  · have := key l.length k h (Nat.le_refl _)
    rwa [List.take_length] at this
  · rw [List.take_of_length_le (by omega)]; exact Nat.le_refl _
theorem joinS_le (l : List Str) (sep : Str) : (joinS l sep).length ≤ sumL List.length l + l.length * sep.length := by
  induction l with
  | nil => simp [joinS_nil]
  | cons x l ih =>
    cases l with
    | nil =>
      have : joinS [x] sep = x := by simp [joinS, Lib.join, List.intercalate, List.intersperse]
      rw [this]; simp [sumL]
    | cons y l =>
      have e1 : joinS (x :: y :: l) sep = x ++ sep ++ joinS (y :: l) sep := by simp [joinS, Lib.join, List.intercalate, List.intersperse]
      have e2 : sumL List.length (x :: y :: l) = x.length + sumL List.length (y :: l) := by simp [sumL]
      rw [e1, e2]
      simp only [List.length_append, List.length_cons, Nat.succ_mul] at *
      omega
/-- A part of a text. -/
def pt (b : Bool) (w : Str) : Str := bif b then 32 :: w else []
theorem pt_le (b : Bool) (w : Str) : (pt b w).length ≤ w.length + 1 := by unfold pt; cases b <;> simp
theorem pt_t {b : Bool} {w : Str} (h : b = true) : pt b w = 32 :: w := by subst h; rfl
theorem pt_f {b : Bool} {w : Str} (h : b = false) : pt b w = [] := by subst h; rfl
end Go.Ab
