/- slices.Delete: elements go out of a row. -/
import Derived.Test.YtondigjbmieekaaFnT
import Derived.Test.YtondigjbmieekaaEng4
import Derived.Deep.LoopGhost
import Derived.Deep.RegionLaw
import Derived.WalkMore
import Derived.OwnWalk
set_option linter.all false
set_option linter.unusedSimpArgs false
set_option linter.unusedVariables false
set_option linter.unusedSectionVars false
set_option maxRecDepth 20000
set_option maxHeartbeats 1000000
namespace Go.Ab
open Go Go.Proofs.Try
open Go.RowKit
noncomputable def sp_delAt : Spec := ⟨[.sl .attr, .sc, .sc], [.tk, .rd, .rd], false, fun
  | [.own true ⟨.attr, l⟩, .int .i64 i, .int .i64 j] => some (some (0 ≤ i ∧ i < j ∧ j ≤ (l.length : Nat)), .own true ⟨.attr, delL l i.toNat j.toNat⟩, [])
  | _ => none⟩
@[push_cast] theorem sp_delAt_ps : sp_delAt.ps = [.sl .attr, .sc, .sc] := rfl
@[push_cast] theorem sp_delAt_md : sp_delAt.modes = [.tk, .rd, .rd] := rfl
@[push_cast] theorem sp_delAt_pure : sp_delAt.pure = false := rfl
@[push_cast] theorem sp_delAt_run (l : List Attr) (i j : Int) : sp_delAt.run [.own true ⟨.attr, l⟩, .int .i64 i, .int .i64 j] = some (some (0 ≤ i ∧ i < j ∧ j ≤ (l.length : Nat)), .own true ⟨.attr, delL l i.toNat j.toNat⟩, []) := rfl
theorem infoAt : (prog.info? 55).map (fun i => (i.zero, i.size, i.bytes)) = some (some (.agg #[.string ⟨#[]⟩, .string ⟨#[]⟩]), 2, 32) := by kernel_rfl
set_option maxHeartbeats 4000000 in
set_option maxRecDepth 1000000 in
theorem delAt_walk : DelOk prog 73 2 := by
  intro g n cap i j w cur t fz hg hf hn hcap hsz hone hij hj
  have hcap' : cap ≤ 9223372036854775807 := by simp only [maxLen] at hcap; omega
  obtain ⟨i0, hi0, hz0, hz1, hz2⟩ := info_parts infoAt
  obtain ⟨news, hnews⟩ : ∃ news, news = (cur.toList.take (n * 2)).drop (j * 2) := ⟨_, rfl⟩
  have hlen : news.length = (n - j) * 2 := by rw [hnews, List.length_drop, List.length_take, Array.length_toList]; omega
  have hget : ∀ t, t < (n - j) * 2 → news[t]? = cur[j * 2 + t]? := fun t ht => by
    rw [hnews, List.getElem?_drop, List.getElem?_take, if_pos (by omega), Array.getElem?_toList]
  obtain ⟨A, hA, hsrc⟩ : ∃ A : Addr, (if cap = j then some (⟨g, 0, none⟩ : Addr) else some ⟨g, j * 2, none⟩) = some A ∧ Hid (∀ t u, news[t]? = some u → w.drew.cell? (A.add t) = some u) := by
    by_cases h : cap = j
    · refine ⟨⟨g, 0, none⟩, by simp [h], fun t u hu => ?_⟩
      have h0 : news.length = 0 := by rw [hlen]; omega
      rw [List.length_eq_zero_iff.1 h0] at hu
      simp at hu
    · refine ⟨⟨g, j * 2, none⟩, by simp [h], fun t u hu => ?_⟩
      have ht : t < (n - j) * 2 := by
        have := (List.getElem?_eq_some_iff.1 hu).1
        rwa [hlen] at this
      rw [hget t ht] at hu
      rw [Addr.add_lit]
      show w.cell? _ = _
      rw [cell_blk hg]; exact hu
  have s1 : Hid (news.length = (n - j) * 2) := hlen
  have s2 : Hid (∀ u ∈ news, u.oneCell' = true) := fun u hu => by
    obtain ⟨t, ht, rfl⟩ := List.getElem_of_mem hu
    have ht' : t < (n - j) * 2 := by rw [← hlen]; exact ht
    have e := hget t ht'
    rw [List.getElem?_eq_getElem ht] at e
    exact hone (j * 2 + t) _ (by omega) e.symm
  have s3 : Hid (∀ t, t < news.length → (w.drew.cell? ⟨g, 0 + i * 2 + t, none⟩).isSome = true ∧ w.drew.frozen? ⟨g, 0 + i * 2 + t, none⟩ = false) := fun t ht => by
    rw [hlen] at ht
    have hk : 0 + i * 2 + t < cur.size := by omega
    refine ⟨?_, ?_⟩
    · show (w.cell? _).isSome = true
      rw [cell_blk hg, Array.getElem?_eq_getElem hk]; rfl
    · exact frozen_blk hg hf.1 hk
  obtain ⟨cur1, b1, b2, b3, b4⟩ := setCells_blk (g := g) (t := t) (fz := fz) news (0 + i * 2) cur w.drew hg (by rw [hlen]; omega)
  obtain ⟨W1, hW1⟩ : ∃ W1, W1 = w.drew.setCells g (0 + i * 2) news := ⟨_, rfl⟩
  rw [← hW1] at b1 b4
  have hf1 : ∀ k : Nat, k < cur1.size → ¬ (fz.1 ≤ k ∧ k < fz.2) := by rw [b2]; exact hf.1
  obtain ⟨W2, cur2, r1, r2, r3, r4, r5⟩ := st_cells (P := prog) (g := g) (o := (i + (n - j)) * 2) (t := t) (fz := fz) (Builtin.zeroCells (Value.agg #[.string ⟨#[]⟩, .string ⟨#[]⟩]).cells (n - (i + (n - j)))).toList 0 cur1 W1 b1 hf1 (by simp [Builtin.zeroCells, Value.cells]; omega) (fun v hv => by
    simp [Builtin.zeroCells, Value.cells] at hv
    obtain ⟨a, _, rfl⟩ := hv
    rcases Nat.mod_two_eq_zero_or_one a with h | h <;> rw [h] <;> rfl)
  have hcl : ∀ ty, (Builtin.clear_ #[67] ty #[.slice (some ⟨g, (i + (n - j)) * 2, none⟩) (n - (i + (n - j))) (cap - (i + (n - j)))]).run prog W1 = .ok (.tuple #[]) W2 := fun ty => by
    obtain ⟨m, hm⟩ : ∃ m, n - (i + (n - j)) = m + 1 := ⟨n - (i + (n - j)) - 1, by omega⟩
    rw [hm] at r1 ⊢
    simp [Builtin.clear_, run_underlying underlying67, run_zero hi0 hz0, r1]
  have hD : Aside (DelW w W2 g n cap i j 2 cur t fz) := ⟨(keep_drew _ w).trans (b4.trans r5), cur2, r2, by rw [r3, b2], fun k hk => by
    rw [r4 k, if_neg (by simp [Builtin.zeroCells, Value.cells]; omega), b3 k]
    unfold delS
    rw [hlen]
    by_cases h1 : k < i * 2
    · rw [if_pos h1, if_neg (by omega)]
    · rw [if_neg h1, if_pos (by omega), hget _ (by omega)]
      congr 1
      omega⟩
  have hW : Hid (W1 = w.drew.setCells g (0 + i * 2) news) := hW1
  have hic : i ≤ cap := by omega
  have hjc : j ≤ cap := by omega
  have hne : ¬ i = j := by omega
  clear hW1 b1 b2 b3 b4 r1 r2 r3 r4 r5 hf1 hget hlen hnews hone hf hg hsz
  go_enter func73, ntmps73
  go_wp2_with fail
  go_region_law (refine step_append_room rfl (.tmp 22) (.tmp 25) 67 rfl 55 i0 2 underlying67 hi0 hz1 g 0 i cap (by simp [Act.eval, Act.put]) A (n - j) (cap - j) news (by simp [Act.eval, Act.put]) s1.out hsrc.out s2.out (by omega) s3.out ?_; rw [← hW.out])
  go_wp2
  go_ret
  exact ⟨by rw [show n - (j - i) = i + (n - j) by omega]; rfl, hD.out⟩
theorem c_delAt : CRow P0 ety0 73 sp_delAt := by
  refine ⟨?_, ent_of func73 rfl rfl⟩
  intro args p r outs hrun hq w R vs F hrel hR hFR hFl hG
  simp only [sp_delAt] at hrun
  split at hrun <;> cases hrun
  rename_i l i j
  obtain ⟨h0, h1, h2⟩ := hq _ rfl
  obtain ⟨hl, fs, hg, hd, hF⟩ := argsF hrel
  obtain ⟨vs⟩ := vs
  match vs, hl with
  | [u, v, t], _ =>
    have g0 := relA_own (hg 0 _ u rfl rfl)
    cases relA_int (hg 1 _ v rfl rfl)
    cases relA_int (hg 2 _ t rfl rfl)
    obtain ⟨a, rfl⟩ : ∃ a : Nat, i = a := ⟨i.toNat, by omega⟩
    obtain ⟨b, rfl⟩ : ∃ b : Nat, j = b := ⟨j.toNat, by omega⟩
    have h0F : ∀ b, fs 0 b → F b := fun b hb => (hF b).2 ⟨0, by simp, hb⟩
    refine (del_row (P := P0) .attr delAt_walk g0 hR (fun b hb => hFR b (h0F b hb)) (by omega) (by omega)).mono fun e w' h => ?_
    obtain ⟨v', F', he, ho, hF', hk⟩ := h
    exact fin_own (P := P0) rfl hR hFR he ho (fun b hb => .inr (h0F b (hF' b hb))) (hk.mono h0F)
end Go.Ab
