/- slices.Insert: a node is put into a row. -/
import Derived.Test.YtondigjbmieekaaFnT
import Derived.Test.YtondigjbmieekaaEng4
import Derived.Deep.LoopGhost
import Derived.Deep.RegionLaw
import Derived.WalkMore
import Derived.OwnWalk
import Derived.Shelf.Spec.SlicesInsert
import Derived.Lib.AppendZerosOnto
set_option linter.all false
set_option linter.unusedSimpArgs false
set_option linter.unusedVariables false
set_option linter.unusedSectionVars false
set_option maxRecDepth 20000
set_option maxHeartbeats 1000000
namespace Go.Ab
open Go Go.Proofs.Try
open Go.RowKit
noncomputable def sp_insNd : Spec := ⟨[.sl .node, .sc, .sl .node], [.tk, .rd, .tk], false, fun
  | [.own true ⟨.node, l⟩, .int .i64 i, .own true ⟨.node, x⟩] => some (some (x.length = 1 ∧ 0 ≤ i ∧ i ≤ (l.length : Nat) ∧ l.length < 1073741824), .own true ⟨.node, l.take i.toNat ++ x ++ l.drop i.toNat⟩, [])
  | _ => none⟩
@[push_cast] theorem sp_insNd_ps : sp_insNd.ps = [.sl .node, .sc, .sl .node] := rfl
@[push_cast] theorem sp_insNd_md : sp_insNd.modes = [.tk, .rd, .tk] := rfl
@[push_cast] theorem sp_insNd_pure : sp_insNd.pure = false := rfl
@[push_cast] theorem sp_insNd_run (l : List Node) (i : Int) (x : List Node) : sp_insNd.run [.own true ⟨.node, l⟩, .int .i64 i, .own true ⟨.node, x⟩] = some (some (x.length = 1 ∧ 0 ≤ i ∧ i ≤ (l.length : Nat) ∧ l.length < 1073741824), .own true ⟨.node, l.take i.toNat ++ x ++ l.drop i.toNat⟩, []) := rfl
abbrev zNd : Value := .agg #[.int .i64 0, .int .i64 0, .string ⟨#[]⟩, .string ⟨#[]⟩, .slice none 0 0, .slice none 0 0]
theorem infoNd : (prog.info? 69).map (fun i => (i.zero, i.size, i.bytes)) = some (some zNd, 6, 96) := by kernel_rfl
theorem frz_end {w : World} {g : Nat} {cur : Array Value} {t : TypeId} {fz : Nat × Nat} {s : Nat} (h : w.heap[g]? = some (.cells cur t fz)) (hf : Unf s cur.size fz) (hs : 1 < s) : w.frozen? ⟨g, cur.size, none⟩ = false := by
  have := hf.2 hs
  obtain ⟨a, b⟩ := fz
  simp only [World.frozen?, h]
  simpa using fun _ => this
/-- In place, at the end. -/
theorem ins_end_room (g n cap gu capu : Nat) (w : World) (xs : List Value) (hg : ∀ j, j < 6 → (w.cell? ⟨g, n * 6 + j, none⟩).isSome = true) (hf : ∀ j, j < 6 → w.frozen? ⟨g, n * 6 + j, none⟩ = false) (hxl : xs.length = 6) (hx : ∀ j u, xs[j]? = some u → w.cell? ⟨gu, 0 + j, none⟩ = some u) (h1 : ∀ c ∈ xs, c.oneCell' = true)
    (hroom : n + 1 ≤ cap) (hc63 : cap ≤ 9223372036854775807) :
    Calls prog 118 #[.slice (some ⟨g, 0, none⟩) n cap, .int .i64 n, .slice (some ⟨gu, 0, none⟩) 1 capu] w fun e w' => e = .returned (.slice (some ⟨g, 0, none⟩) (n + 1) cap) ∧ w' = w.setCells g (n * 6) xs := by
  obtain ⟨i0, hi0, hz0, hzs, hzb⟩ := info_parts infoNd
  have hsrc : Src prog i0.size 41 (.slice (some ⟨gu, 0, none⟩) 1 capu) 1 xs w := by
    rw [hzs]
    exact Src.ofSlice w underlying41 ⟨gu, 0, none⟩ 1 capu xs (by omega) (fun j u hj => by rw [Addr.add_lit]; exact hx j u hj) h1
  have hr : ∀ ty, (Builtin.append_ #[41, 41] ty #[.slice (some ⟨g, 0, none⟩) n cap, .slice (some ⟨gu, 0, none⟩) 1 capu]).run prog w = .ok (.slice (some ⟨g, 0, none⟩) (n + 1) cap) (w.setCells g (n * 6) xs) := fun ty => by
    have := run_append_room_src w 41 41 ty 69 i0 underlying41 hi0 g 0 n cap _ 1 xs hsrc hroom (by rw [hxl, hzs, Nat.zero_add]; exact hg) (by rw [hxl, hzs, Nat.zero_add]; exact hf)
    rw [hzs, Nat.zero_add] at this
    exact this
  clear hg hf hx hsrc
  go_enter func118, ntmps118
  go_wp2_with (at_builtin; refine Lib.wpList_append_run _ rfl _ _ _ _ rfl _ _ rfl rfl _ _ (hr _) ?_)
  go_ret
  exact ⟨rfl, rfl⟩
/-- In new memory, at the end. -/
theorem ins_end_grow (base : Option Addr) (n cap gu capu : Nat) (w : World) (cs xs : List Value) (hcl : cs.length = n * 6) (hnil : base = none → n = 0) (hcs : ∀ a, base = some a → ∀ j v, cs[j]? = some v → w.cell? (a.add j) = some v) (hxl : xs.length = 6) (hx : ∀ j u, xs[j]? = some u → w.cell? ⟨gu, 0 + j, none⟩ = some u) (h1 : ∀ c ∈ xs, c.oneCell' = true)
    (hnc : n ≤ cap) (hroom : cap < n + 1) (hn : n < 1073741824) :
    Calls prog 118 #[.slice base n cap, .int .i64 n, .slice (some ⟨gu, 0, none⟩) 1 capu] w fun e w' => e = .returned (.slice (some ⟨w.heap.size, 0, none⟩) (n + 1) (grownCap w (n + 1) cap 69)) ∧
      w' = w.drew.alloc (.cells ((cs ++ xs).toArray ++ Builtin.zeroCells zNd.cells (grownCap w (n + 1) cap 69 - (n + 1))) 69) := by
  obtain ⟨i0, hi0, hz0, hzs, hzb⟩ := info_parts infoNd
  have hsrc : Src prog i0.size 41 (.slice (some ⟨gu, 0, none⟩) 1 capu) 1 xs w := by
    rw [hzs]
    exact Src.ofSlice w underlying41 ⟨gu, 0, none⟩ 1 capu xs (by omega) (fun j u hj => by rw [Addr.add_lit]; exact hx j u hj) h1
  have hold : (Builtin.firstCells i0.size n (.slice base n cap)).run prog w.drew = .ok cs.toArray w.drew := by
    rw [hzs]
    cases base with
    | none =>
      have h0 := hnil rfl
      subst h0
      rw [List.length_eq_zero_iff.1 hcl]
      exact run_firstCells_none w.drew 6 0 0 cap
    | some a => exact run_firstCells_some w.drew 6 n a n cap cs hcl (fun j v hj => hcs a rfl j v hj)
  have hr : ∀ ty, (Builtin.append_ #[41, 41] ty #[.slice base n cap, .slice (some ⟨gu, 0, none⟩) 1 capu]).run prog w = _ := fun ty =>
    run_append_grow_src w 41 41 ty 69 i0 _ underlying41 hi0 hz0 base n cap cs hold _ 1 xs hsrc hroom (by omega) (by rw [hzb]; exact growslice_fits hroom (by omega))
  clear hcs hx hsrc hold
  go_enter func118, ntmps118
  cases base with
  | none =>
    have h0 := hnil rfl
    subst h0
    go_wp2_with (at_builtin; refine Lib.wpList_append_run _ rfl _ _ _ _ rfl _ _ rfl rfl _ _ (hr _) ?_)
    all_goals (go_ret; exact ⟨rfl, rfl⟩)
  | some a =>
    obtain ⟨ab, ao, asp⟩ := a
    go_wp2_with (at_builtin; refine Lib.wpList_append_run _ rfl _ _ _ _ rfl _ _ rfl rfl _ _ (hr _) ?_)
    all_goals (go_ret; exact ⟨rfl, rfl⟩)
set_option maxHeartbeats 4000000 in
set_option maxRecDepth 100000 in
/-- In place, ahead of an element. -/
theorem ins_shift (g n cap i gu capu : Nat) (w : World) (cs xs : List Value) (cur cuu : Array Value) (t tu : TypeId) (fz fzu : Nat × Nat) (hg : w.heap[g]? = some (.cells cur t fz)) (hfz : Unf 6 cur.size fz) (hcs : ∀ (j : Nat) v, cs[j]? = some v → cur[j]? = some v) (hcl : cs.length = n * 6) (hsz : cur.size = cap * 6)
    (hu : w.heap[gu]? = some (.cells cuu tu fzu)) (hfu : Unf 6 cuu.size fzu) (hxs : ∀ (j : Nat) v, xs[j]? = some v → cuu[j]? = some v) (hxl : xs.length = 6) (hne : gu ≠ g) (h1c : ∀ c ∈ cs, c.oneCell' = true) (h1 : ∀ c ∈ xs, c.oneCell' = true) (hi : i < n) (hroom : n + 1 ≤ cap) (hc63 : cap ≤ 9223372036854775807) :
    Calls prog 118 #[.slice (some ⟨g, 0, none⟩) n cap, .int .i64 i, .slice (some ⟨gu, 0, none⟩) 1 capu] w fun e w' => e = .returned (.slice (some ⟨g, 0, none⟩) (n + 1) cap) ∧ w' = (w.drew.setCells g ((i + 1) * 6) (cs.drop (i * 6))).setCells g (i * 6) xs := by
  obtain ⟨i0, hi0, hz0, hzs, hzb⟩ := info_parts infoNd
  have hxg : 0 < cuu.size := by
    have := hxs 0 _ (List.getElem?_eq_getElem (by omega))
    exact (Array.getElem?_eq_some_iff.1 this).1
  have hov : ∀ lb cb, (callFunc 147 #[.slice (some ⟨gu, 0, none⟩) 1 capu, .slice (some ⟨g, (i + 1) * 6, none⟩) lb cb]).run prog w = .ok (.value (.bool false)) w := fun lb cb => by
    rw [run_callFunc_extern func147 (by kernel_rfl) (by kernel_rfl) (by kernel_rfl) (e := Extern.SlicesOverlaps.overlaps #[41, 41] #[4]) (by kernel_rfl),
      Lib.run_overlaps_apart w 41 4 69 underlying41 6 (fun w => by simp [Go.sizeOf, typeInfo, hi0, hzs]) ⟨gu, 0, none⟩ ⟨g, (i + 1) * 6, none⟩ 1 capu lb cb hne tu t cuu.size cur.size (by simp [World.shape?, hu]) (by simp [World.shape?, hg]) (by omega) (frozen_blk hu hfu.1 hxg) (frz_end hu hfu (by decide))]
    rfl
  have hdl : (cs.drop (i * 6)).length = (n - i) * 6 := by rw [List.length_drop, hcl, Nat.sub_mul]
  have hw1 : IntKind.i64.wrap ((i : Int) + 1) = (i : Int) + 1 := by rw [IntKind.wrap_i64]; omega
  have hw2 : IntKind.i64.wrap ((n : Int) + 1) = (n : Int) + 1 := by rw [IntKind.wrap_i64]; omega
  have hb1 : (0 : Int) ≤ (i : Int) + 1 := by omega
  have hin : i ≤ n := by omega
  have htn : ((i : Int) + 1).toNat = i + 1 := by omega
  have htm : ((n : Int) + 1).toNat = n + 1 := by omega
  have hb2 : ¬ (cap = i + 1) := by omega
  have hb3 : (i : Int) ≤ (n : Int) + 1 := by omega
  have hb4 : ¬ (cap = i) := by omega
  have hb5 : ¬ ((i : Int) = (n : Int)) := by omega
  have hsp : ∀ k, k < (n + 1) * 6 → k < cur.size := fun k hk => by omega
  have hcp1 : ∀ ty dc sc, (Builtin.copy_ #[41, 41] ty #[.slice (some ⟨g, (i + 1) * 6, none⟩) (n - i) dc, .slice (some ⟨g, i * 6, none⟩) (n + 1 - i) sc]).run prog w.drew = .ok (goInt ((n - i : Nat) : Int)) (w.drew.setCells g ((i + 1) * 6) (cs.drop (i * 6))) := fun ty dc sc =>
    run_copy_cellsN w.drew _ _ ty 69 i0 g ((i + 1) * 6) (n - i) dc ⟨g, i * 6, none⟩ (n + 1 - i) sc (cs.drop (i * 6)) (n - i) underlying41 hi0 (by simp only [Nat.min_def]; split <;> omega) (by rw [hdl, hzs])
      (fun j v hj => by rw [Addr.add_lit]; show w.cell? _ = _; rw [cell_blk hg]; exact hcs (i * 6 + j) v (by rwa [List.getElem?_drop] at hj))
      (fun j hj => by show (w.cell? _).isSome = true; rw [cell_blk hg, Array.getElem?_eq_getElem (hsp _ (by omega))]; rfl) (fun j hj => frozen_blk (w := w.drew) hg hfz.1 (hsp _ (by omega))) (fun v hv => h1c v (List.mem_of_mem_drop hv))
  obtain ⟨cur1, b1, b2, b3, b4⟩ := setCells_blk (g := g) (t := t) (fz := fz) (cs.drop (i * 6)) ((i + 1) * 6) cur w.drew hg (by rw [hdl]; omega)
  obtain ⟨W1, hW1⟩ : ∃ W1, W1 = w.drew.setCells g ((i + 1) * 6) (cs.drop (i * 6)) := ⟨_, rfl⟩
  rw [← hW1] at hcp1 b1 b4 ⊢
  have hu1 : W1.heap[gu]? = some (.cells cuu tu fzu) := by
    have hlt : gu < w.heap.size := by
      rcases Nat.lt_or_ge gu w.heap.size with h | h
      · exact h
      · rw [Array.getElem?_eq_none h] at hu; cases hu
    rw [b4.block gu hlt hne]; exact hu
  have hcp2 : ∀ (W : World), W.heap = W1.heap → ∀ ty dc, (Builtin.copy_ #[41, 41] ty #[.slice (some ⟨g, i * 6, none⟩) (n + 1 - i) dc, .slice (some ⟨gu, 0, none⟩) 1 capu]).run prog W = .ok (goInt 1) (W.setCells g (i * 6) xs) := fun W hW ty dc =>
    run_copy_cellsN W _ _ ty 69 i0 g (i * 6) (n + 1 - i) dc ⟨gu, 0, none⟩ 1 capu xs 1 underlying41 hi0 (by simp only [Nat.min_def]; split <;> omega) (by rw [hxl, hzs])
      (fun j v hj => by rw [Addr.add_lit, Nat.zero_add, cell_blk (by rw [hW]; exact hu1)]; exact hxs j v hj)
      (fun j hj => by rw [cell_blk (by rw [hW]; exact b1), Array.getElem?_eq_getElem (by rw [b2]; exact hsp _ (by omega))]; rfl) (fun j hj => frozen_blk (by rw [hW]; exact b1) (by rw [b2]; exact hfz.1) (by rw [b2]; exact hsp _ (by omega))) h1
  have X : Aside (W1 = w.drew.setCells g ((i + 1) * 6) (cs.drop (i * 6))) := hW1
  clear hW1 b1 b2 b3 b4 hu1 hsp hdl hcs hxs hg hu hfz hfu h1c h1
  go_enter func118, ntmps118
  go_wp2_with (simp only [hov])
  go_region_law (refine Go.Proofs.step_copy_runI rfl _ _ 41 41 rfl _ _ (by simp [Act.eval, Act.put]) (by simp [Act.eval, Act.put]) (hcp1 _ _ _) ?_)
  go_wp2_with (at_builtin; refine Go.Proofs.wpList_copy_runI _ rfl _ _ 41 41 rfl _ _ rfl rfl (hcp2 _ rfl _ _) ?_)
  go_ret
  exact ⟨rfl, rfl⟩
set_option maxHeartbeats 4000000 in
set_option maxRecDepth 100000 in
/-- In new memory, ahead of an element. -/
theorem ins_grow (g n cap i gu capu : Nat) (w : World) (cs xs : List Value) (hcs : ∀ (j : Nat) v, cs[j]? = some v → w.cell? ⟨g, j, none⟩ = some v) (hcl : cs.length = n * 6) (hxs : ∀ (j : Nat) v, xs[j]? = some v → w.cell? ⟨gu, j, none⟩ = some v) (hxl : xs.length = 6)
    (h1c : ∀ c ∈ cs, c.oneCell' = true) (h1 : ∀ c ∈ xs, c.oneCell' = true) (hi : i < n) (hnc : n ≤ cap) (hroom : cap < n + 1) (hn : n < 1073741824) :
    Calls prog 118 #[.slice (some ⟨g, 0, none⟩) n cap, .int .i64 i, .slice (some ⟨gu, 0, none⟩) 1 capu] w fun e w' => e = .returned (.slice (some ⟨w.heap.size, 0, none⟩) (n + 1) (grownCap w (n + 1) cap 69)) ∧
      w' = (((w.alloc (.cells ((cs.take (i * 6)).toArray ++ Builtin.zeroCells zNd.cells (n + 1 - i) ++ Builtin.zeroCells zNd.cells (grownCap w (n + 1) cap 69 - (n + 1))) 69)).drew.setCells w.heap.size (i * 6) xs).drew).setCells w.heap.size ((i + 1) * 6) (cs.drop (i * 6)) := by
  obtain ⟨i0, hi0, hz0, hzs, hzb⟩ := info_parts infoNd
  have hz2 : ¬ ((i : Int) = (n : Int)) := by omega
  have hz3 : (cap : Int) < (n : Int) + 1 := by omega
  have hbw : g < w.heap.size := World.block_lt_of_cell? _ _ (hcs 0 _ (List.getElem?_eq_getElem (by omega)))
  have hvw : gu < w.heap.size := World.block_lt_of_cell? _ _ (hxs 0 _ (List.getElem?_eq_getElem (by omega)))
  have hkk : (n : Int) + 1 - (i : Int) = ((n + 1 - i : Nat) : Int) := by omega
  have hik : i + (n + 1 - i) = n + 1 := by omega
  have hold : (Builtin.firstCells i0.size i (.slice (some ⟨g, 0, none⟩) i cap)).run prog w.drew = .ok (cs.take (i * 6)).toArray w.drew := by
    rw [hzs]
    exact run_firstCells_some w.drew 6 i ⟨g, 0, none⟩ i cap (cs.take (i * 6)) (by rw [List.length_take]; omega) (fun j v hj => by
      rw [Addr.add_lit, Nat.zero_add]
      rw [List.getElem?_take] at hj
      split at hj
      · exact hcs j v hj
      · cases hj)
  have hrz : ∀ ty, (Builtin.append_ #[41, 3] ty #[.slice (some ⟨g, 0, none⟩) i cap, .int .i64 ((n : Int) + 1 - (i : Int))]).run prog w =
      .ok (.slice (some ⟨w.heap.size, 0, none⟩) (n + 1) (grownCap w (n + 1) cap 69)) (w.drew.alloc (.cells ((cs.take (i * 6)).toArray ++ Builtin.zeroCells zNd.cells (n + 1 - i) ++ Builtin.zeroCells zNd.cells (grownCap w (n + 1) cap 69 - (n + 1))) 69)) := fun ty => by
    have h := Lib.run_append_grow_zeros w 41 3 ty 69 i0 _ .i64 .i64 underlying41 underlying3 hi0 hz0 (some ⟨g, 0, none⟩) i cap (cs.take (i * 6)) hold (n + 1 - i) (by omega) (by omega) (by omega) (by omega) (by rw [hzb]; omega) (by rw [hzb, hik]; exact growslice_fits hroom (by omega))
    rw [hik] at h
    rw [hkk]
    exact h
  obtain ⟨G, hG⟩ : ∃ G, G = grownCap w (n + 1) cap 69 := ⟨_, rfl⟩
  obtain ⟨ROW, hROW⟩ : ∃ ROW : Array Value, ROW = (cs.take (i * 6)).toArray ++ Builtin.zeroCells zNd.cells (n + 1 - i) ++ Builtin.zeroCells zNd.cells (G - (n + 1)) := ⟨_, rfl⟩
  rw [← hG] at hrz ⊢
  rw [← hROW] at hrz ⊢
  have hGn : n + 1 ≤ G := by rw [hG]; exact grownCap_ge w _ _ _
  have hRl : (n + 1) * 6 ≤ ROW.size := by
    rw [hROW]
    simp [Builtin.zeroCells, Value.cells, zNd]
    omega
  obtain ⟨W1, hW1⟩ : ∃ W1, W1 = w.drew.alloc (.cells ROW 69) := ⟨_, rfl⟩
  rw [← hW1] at hrz
  have hb1' : W1.heap[w.heap.size]? = some (.cells ROW 69 (0, 0)) := by rw [hW1]; exact alloc_new_drew w _
  have hOb : ∀ j v, w.cell? ⟨g, j, none⟩ = some v → W1.cell? ⟨g, j, none⟩ = some v := fun j v h => by rw [hW1, World.cell?_alloc_past (w := w.drew) _ g j hbw]; exact h
  have hOv : ∀ j v, w.cell? ⟨gu, j, none⟩ = some v → W1.cell? ⟨gu, j, none⟩ = some v := fun j v h => by rw [hW1, World.cell?_alloc_past (w := w.drew) _ gu j hvw]; exact h
  have hcpA : ∀ (W : World), W.heap = W1.heap → ∀ ty dc, (Builtin.copy_ #[41, 41] ty #[.slice (some ⟨w.heap.size, i * 6, none⟩) (n + 1 - i) dc, .slice (some ⟨gu, 0, none⟩) 1 capu]).run prog W = .ok (goInt 1) (W.setCells w.heap.size (i * 6) xs) := fun W hW ty dc =>
    run_copy_cellsN W _ _ ty 69 i0 w.heap.size (i * 6) (n + 1 - i) dc ⟨gu, 0, none⟩ 1 capu xs 1 underlying41 hi0 (by simp only [Nat.min_def]; split <;> omega) (by rw [hxl, hzs])
      (fun j v hj => by
        rw [Addr.add_lit, Nat.zero_add]
        have := hOv _ v (hxs j v hj)
        simpa [World.cell?, hW] using this)
      (fun j hj => by rw [cell_blk (by rw [hW]; exact hb1'), Array.getElem?_eq_getElem (by omega)]; rfl) (fun j hj => frozen_blk (by rw [hW]; exact hb1') (Unf.zero 6 _).1 (by omega)) h1
  have hG63 : G ≤ 9223372036854775807 := by
    have := grownCap_le_maxLen w (n + 1) cap 69 (by unfold maxLen; omega)
    rw [← hG] at this
    unfold maxLen at this
    omega
  have hGi : ¬ (G = i) := by omega
  have hGim : ¬ (G = i + 1) := by omega
  have hci : ¬ (cap = i) := by omega
  have hbN : g ≠ w.heap.size := by omega
  have hdl : (cs.drop (i * 6)).length = (n - i) * 6 := by rw [List.length_drop, hcl, Nat.sub_mul]
  obtain ⟨cur2, b1, b2, b3, b4⟩ := setCells_blk (g := w.heap.size) (t := 69) (fz := (0, 0)) xs (i * 6) ROW W1 hb1' (by omega)
  have hcpB : ∀ (W : World), W.heap = (W1.setCells w.heap.size (i * 6) xs).heap → ∀ ty dc sc, (Builtin.copy_ #[41, 41] ty #[.slice (some ⟨w.heap.size, (i + 1) * 6, none⟩) (n - i) dc, .slice (some ⟨g, i * 6, none⟩) (n - i) sc]).run prog W = .ok (goInt ((n - i : Nat) : Int)) (W.setCells w.heap.size ((i + 1) * 6) (cs.drop (i * 6))) := fun W hW ty dc sc =>
    run_copy_cellsN W _ _ ty 69 i0 w.heap.size ((i + 1) * 6) (n - i) dc ⟨g, i * 6, none⟩ (n - i) sc (cs.drop (i * 6)) (n - i) underlying41 hi0 (by simp) (by rw [hdl, hzs])
      (fun j v hj => by
        rw [Addr.add_lit]
        have h2 : W.cell? ⟨g, i * 6 + j, none⟩ = (W1.setCells w.heap.size (i * 6) xs).cell? ⟨g, i * 6 + j, none⟩ := by simp [World.cell?, hW]
        rw [h2, World.cell?_setCells_out _ _ _ _ _ (fun h _ => absurd h hbN)]
        exact hOb _ v (hcs (i * 6 + j) v (by rwa [List.getElem?_drop] at hj)))
      (fun j hj => by rw [cell_blk (by rw [hW]; exact b1), Array.getElem?_eq_getElem (by rw [b2]; omega)]; rfl) (fun j hj => frozen_blk (by rw [hW]; exact b1) (Unf.zero 6 _).1 (by rw [b2]; omega)) (fun v hv => h1c v (List.mem_of_mem_drop hv))
  subst hW1
  have hE : ((w.alloc (.cells ROW 69)).drew).heap = (w.drew.alloc (.cells ROW 69)).heap := rfl
  have hF : (((w.alloc (.cells ROW 69)).drew.setCells w.heap.size (i * 6) xs).drew).heap = ((w.drew.alloc (.cells ROW 69)).setCells w.heap.size (i * 6) xs).heap := rfl
  have hw1 : IntKind.i64.wrap ((i : Int) + 1) = (i : Int) + 1 := by rw [IntKind.wrap_i64]; omega
  have hw2 : IntKind.i64.wrap ((n : Int) + 1) = (n : Int) + 1 := by rw [IntKind.wrap_i64]; omega
  have hb1 : (0 : Int) ≤ (i : Int) + 1 := by omega
  have hin : i ≤ n := by omega
  have htn : ((i : Int) + 1).toNat = i + 1 := by omega
  have hb3 : (i : Int) ≤ (n : Int) := by omega
  clear hkk hik hold hROW hG hRl b1 b2 b3 b4 hb1' hOb hOv hcs hxs h1c h1 hdl
  go_enter func118, ntmps118
  go_wp2_with (first
    | (at_builtin; refine Lib.wpList_append_run _ rfl _ _ _ _ rfl _ _ rfl rfl _ _ (hrz _) ?_)
    | (at_builtin; refine Go.Proofs.wpList_copy_runI _ rfl _ _ 41 41 rfl _ _ rfl rfl (hcpA _ hE _ _) ?_))
  go_region_law (refine Go.Proofs.step_copy_runI rfl _ _ 41 41 rfl (.slice (some ⟨w.heap.size, (i + 1) * 6, none⟩) (n - i) (G - (i + 1))) (.slice (some ⟨g, i * 6, none⟩) (n - i) (cap - i)) (by simp [Act.eval, Act.put]) (by simp [Act.eval, Act.put]) (hcpB _ hF 3 (G - (i + 1)) (cap - i)) ?_)
  go_wp2
  go_ret
  exact ⟨rfl, rfl⟩
theorem fin_cells {arr : Array Value} {cs xs : List Value} {n i : Nat} (hc : cs.length = n * 6) (hx : xs.length = 6) (hi : i ≤ n) (ha : ∀ k, k < i * 6 → arr[k]? = cs[k]?) (hb : ∀ k, k < 6 → arr[i * 6 + k]? = xs[k]?) (hd : ∀ k, k < (n - i) * 6 → arr[(i + 1) * 6 + k]? = cs[i * 6 + k]?) :
    arr.toList.take ((n + 1) * 6) = cs.take (i * 6) ++ xs ++ cs.drop (i * 6) := by
  apply List.ext_getElem?
  intro k
  rw [List.getElem?_take, Array.getElem?_toList, ins_get hc hx hi]
  by_cases hk : k < (n + 1) * 6
  · rw [if_pos hk, if_pos hk]
    unfold insS
    by_cases h1 : k < i * 6
    · rw [if_pos h1, ha k h1, List.getElem?_append_left (by omega)]
    · rw [if_neg h1]
      by_cases h2 : k < i * 6 + 6
      · have := hb (k - i * 6) (by omega)
        rw [show i * 6 + (k - i * 6) = k by omega] at this
        rw [if_pos h2, List.getElem?_append_right (by omega), hc, this]
        congr 1
        omega
      · have := hd (k - (i + 1) * 6) (by omega)
        rw [show (i + 1) * 6 + (k - (i + 1) * 6) = k by omega] at this
        rw [if_neg h2, List.getElem?_append_left (by omega), this]
        congr 1
        omega
  · rw [if_neg hk, if_neg hk]
theorem keep_fresh {S : Nat → Prop} {N : Nat} {w w' : World} (h : Keep (fun b => b = N) w w') (hN : w.heap.size ≤ N) : Keep S w w' :=
  ⟨h.os, h.tape, h.output, h.size, fun b hb _ => h.block b hb (by omega)⟩
theorem insNd_ok : InsOk prog 118 6 := by
  intro w v u n i e cs xs ho hu hvu h1c h1x hi hn
  obtain ⟨hxl, ⟨_, h0⟩ | ⟨gu, capu, cuu, fzu, rfl, ⟨tu, hgu⟩, hfu, h1u, hcu, hszu, htu⟩⟩ := hu
  · omega
  have hxl : xs.length = 6 := by omega
  have hxs : ∀ (j : Nat) c, xs[j]? = some c → cuu[j]? = some c := fun j c hj => by
    have hlt : j < 6 := by rw [← hxl]; exact (List.getElem?_eq_some_iff.1 hj).1
    rw [← htu, List.getElem?_take, if_pos (by omega), Array.getElem?_toList] at hj
    exact hj
  have hxc : ∀ (j : Nat) c, xs[j]? = some c → w.cell? ⟨gu, j, none⟩ = some c := fun j c hj => by rw [cell_blk hgu]; exact hxs j c hj
  have hxc0 : ∀ (j : Nat) c, xs[j]? = some c → w.cell? ⟨gu, 0 + j, none⟩ = some c := fun j c hj => by rw [Nat.zero_add]; exact hxc j c hj
  have grown : ∀ (arr : Array Value) (G : Nat), arr.size = G * 6 → arr.toList.take ((n + 1) * 6) = cs.take (i * 6) ++ xs ++ cs.drop (i * 6) → cs.length = n * 6 → n + 1 ≤ G → G ≤ maxLen → ∀ (w' : World) (t : TypeId), w'.heap[w.heap.size]? = some (.cells arr t (0, 0)) →
      ownR w' e 6 (.slice (some ⟨w.heap.size, 0, none⟩) (n + 1) G) (n + 1) (cs.take (i * 6) ++ xs ++ cs.drop (i * 6)) := fun arr G h1 h2 h3 h4 h5 w' t h6 =>
    ⟨ins_len h3 hxl hi, .inr ⟨w.heap.size, G, arr, (0, 0), rfl, ⟨t, h6⟩, .zero _ _, h4, h5, h1, h2⟩⟩
  have gcap : ∀ cap, n + 1 ≤ grownCap w (n + 1) cap 69 ∧ grownCap w (n + 1) cap 69 ≤ maxLen := fun cap => ⟨grownCap_ge w _ _ _, grownCap_le_maxLen w (n + 1) cap 69 (by unfold maxLen; omega)⟩
  have zlen : ∀ m, (Builtin.zeroCells zNd.cells m).size = m * 6 := fun m => by simp [Builtin.zeroCells, zNd, Value.cells]
  obtain ⟨hcl, ⟨rfl, rfl⟩ | ⟨g, cap, cur, fz, rfl, ⟨t, hg⟩, hfz, hnc, hcm, hsz, htk⟩⟩ := ho
  · have hi0 : i = 0 := by omega
    subst hi0
    have hc0 : cs = [] := List.length_eq_zero_iff.1 (by omega)
    subst hc0
    refine (ins_end_grow none 0 0 gu capu w [] xs rfl (fun _ => rfl) (fun a h => by cases h) hxl hxc0 h1x (Nat.le_refl _) (by omega) hn).mono ?_
    rintro e' w' ⟨rfl, rfl⟩
    obtain ⟨g1, g2⟩ := gcap 0
    refine ⟨_, rfl, (keep_alloc_drew w _).mono fun _ h => h.elim, grown _ _ ?_ ?_ rfl g1 g2 _ _ (alloc_new_drew w _), fun b hb => .inr ?_⟩
    · rw [Array.size_append, zlen]
      simp only [List.nil_append, List.size_toArray, hxl]
      omega
    · refine fin_cells rfl hxl hi (fun k hk => by omega) (fun k hk => ?_) (fun k hk => by omega)
      rw [Array.getElem?_append_left (by simp [hxl]; omega)]
      simp
    · simp [Value.ownBlock] at hb; omega
  · have hgs : g < w.heap.size := by
      rcases Nat.lt_or_ge g w.heap.size with h | h
      · exact h
      · rw [Array.getElem?_eq_none h] at hg; cases hg
    have hcs : ∀ (j : Nat) c, cs[j]? = some c → cur[j]? = some c := fun j c hj => by
      have hlt : j < n * 6 := by rw [← hcl]; exact (List.getElem?_eq_some_iff.1 hj).1
      rw [← htk, List.getElem?_take, if_pos hlt, Array.getElem?_toList] at hj
      exact hj
    have hcg : ∀ k, k < n * 6 → cur[k]? = cs[k]? := fun k hk => by rw [← htk, List.getElem?_take, if_pos hk, Array.getElem?_toList]
    have hcc : ∀ (j : Nat) c, cs[j]? = some c → w.cell? ⟨g, j, none⟩ = some c := fun j c hj => by rw [cell_blk hg]; exact hcs j c hj
    have hne : gu ≠ g := fun h => hvu g rfl (by rw [h]; rfl)
    have hcap' : cap ≤ 9223372036854775807 := by unfold maxLen at hcm; omega
    have hdl : (cs.drop (i * 6)).length = (n - i) * 6 := by rw [List.length_drop, hcl, Nat.sub_mul]
    by_cases hroom : n + 1 ≤ cap
    · have stay : ∀ (w' : World) (cur' : Array Value), w'.heap[g]? = some (.cells cur' t fz) → cur'.size = cur.size → cur'.toList.take ((n + 1) * 6) = cs.take (i * 6) ++ xs ++ cs.drop (i * 6) → ownR w' e 6 (.slice (some ⟨g, 0, none⟩) (n + 1) cap) (n + 1) (cs.take (i * 6) ++ xs ++ cs.drop (i * 6)) := fun w' cur' h1 h2 h3 =>
        ⟨ins_len hcl hxl hi, .inr ⟨g, cap, cur', fz, rfl, ⟨t, h1⟩, by rw [h2]; exact hfz, hroom, hcm, by rw [h2]; exact hsz, h3⟩⟩
      by_cases hin : i = n
      · subst hin
        refine (ins_end_room g i cap gu capu w xs (fun j hj => by rw [cell_blk hg, Array.getElem?_eq_getElem (by omega)]; rfl) (fun j hj => frozen_blk hg hfz.1 (by omega)) hxl hxc0 h1x hroom hcap').mono ?_
        rintro e' w' ⟨rfl, rfl⟩
        obtain ⟨cur1, b1, b2, b3, b4⟩ := setCells_blk (g := g) (t := t) (fz := fz) xs (i * 6) cur w hg (by omega)
        refine ⟨_, rfl, b4.mono fun b hb => by rw [hb]; rfl, stay _ cur1 b1 b2 (fin_cells hcl hxl hi (fun k hk => ?_) (fun k hk => ?_) fun k hk => by omega), fun b hb => .inl hb⟩
        · rw [b3, if_neg (by omega)]; exact hcg k hk
        · rw [b3, if_pos (by omega)]; congr 1; omega
      · refine (ins_shift g n cap i gu capu w cs xs cur cuu t tu fz fzu hg hfz hcs hcl hsz hgu hfu hxs hxl hne h1c h1x (by omega) hroom hcap').mono ?_
        rintro e' w' ⟨rfl, rfl⟩
        obtain ⟨cur1, b1, b2, b3, b4⟩ := setCells_blk (g := g) (t := t) (fz := fz) (cs.drop (i * 6)) ((i + 1) * 6) cur w.drew hg (by rw [hdl]; omega)
        obtain ⟨cur2, c1, c2, c3, c4⟩ := setCells_blk (g := g) (t := t) (fz := fz) xs (i * 6) cur1 _ b1 (by omega)
        refine ⟨_, rfl, ((keep_drew _ w).trans (b4.trans c4)).mono fun b hb => by rw [hb]; rfl, stay _ cur2 c1 (by rw [c2, b2]) (fin_cells hcl hxl hi (fun k hk => ?_) (fun k hk => ?_) fun k hk => ?_), fun b hb => .inl hb⟩
        · rw [c3, if_neg (by omega), b3, if_neg (by omega)]; exact hcg k (by omega)
        · rw [c3, if_pos (by omega)]; congr 1; omega
        · rw [c3, if_neg (by omega), b3, if_pos (by omega), List.getElem?_drop]; congr 1; omega
    · obtain ⟨g1, g2⟩ := gcap cap
      by_cases hin : i = n
      · subst hin
        refine (ins_end_grow (some ⟨g, 0, none⟩) i cap gu capu w cs xs hcl (fun h => by cases h) (fun a h j c hj => by cases h; rw [Addr.add_lit, Nat.zero_add]; exact hcc j c hj) hxl hxc0 h1x hnc (by omega) hn).mono ?_
        rintro e' w' ⟨rfl, rfl⟩
        refine ⟨_, rfl, (keep_alloc_drew w _).mono fun _ h => h.elim, grown _ _ ?_ ?_ hcl g1 g2 _ _ (alloc_new_drew w _), fun b hb => .inr ?_⟩
        · rw [Array.size_append, zlen]
          simp only [List.size_toArray, List.length_append, hxl, hcl]
          omega
        · refine fin_cells hcl hxl hi (fun k hk => ?_) (fun k hk => ?_) (fun k hk => by omega)
          · rw [Array.getElem?_append_left (by simp [hxl, hcl]; omega)]
            simp only [List.getElem?_toArray]
            rw [List.getElem?_append_left (by omega)]
          · rw [Array.getElem?_append_left (by simp [hxl, hcl]; omega)]
            simp only [List.getElem?_toArray]
            rw [List.getElem?_append_right (by omega), hcl]
            congr 1
            omega
        · simp [Value.ownBlock] at hb; omega
      · refine (ins_grow g n cap i gu capu w cs xs hcc hcl hxc hxl h1c h1x (by omega) hnc (by omega) hn).mono ?_
        rintro e' w' ⟨rfl, rfl⟩
        generalize hG : grownCap w (n + 1) cap 69 = G at *
        generalize hROW : (cs.take (i * 6)).toArray ++ Builtin.zeroCells zNd.cells (n + 1 - i) ++ Builtin.zeroCells zNd.cells (G - (n + 1)) = ROW
        have hRs : ROW.size = G * 6 := by
          rw [← hROW, Array.size_append, Array.size_append, zlen, zlen]
          simp only [List.size_toArray, List.length_take, hcl]
          omega
        have hRg : ∀ k, k < i * 6 → ROW[k]? = cs[k]? := fun k hk => by
          rw [← hROW, Array.getElem?_append_left (by rw [Array.size_append]; simp only [List.size_toArray, List.length_take, hcl]; omega), Array.getElem?_append_left (by simp only [List.size_toArray, List.length_take, hcl]; omega)]
          simp only [List.getElem?_toArray]
          rw [List.getElem?_take, if_pos hk]
        have a1 : (w.alloc (.cells ROW 69)).drew.heap[w.heap.size]? = some (.cells ROW 69 (0, 0)) := alloc_new w _
        obtain ⟨cur1, b1, b2, b3, b4⟩ := setCells_blk (g := w.heap.size) (t := 69) (fz := (0, 0)) xs (i * 6) ROW _ a1 (by omega)
        obtain ⟨cur2, c1, c2, c3, c4⟩ := setCells_blk (g := w.heap.size) (t := 69) (fz := (0, 0)) (cs.drop (i * 6)) ((i + 1) * 6) cur1 ((w.alloc (.cells ROW 69)).drew.setCells w.heap.size (i * 6) xs).drew b1 (by rw [hdl]; omega)
        have K0 : Keep (fun b => b = w.heap.size) w (w.alloc (.cells ROW 69)) := (keep_alloc w _).mono fun _ h => h.elim
        refine ⟨_, rfl, keep_fresh (((K0.trans (keep_drew _ _)).trans b4).trans ((keep_drew _ _).trans c4)) (Nat.le_refl _), grown cur2 G (by rw [c2, b2]; exact hRs) (fin_cells hcl hxl hi (fun k hk => ?_) (fun k hk => ?_) fun k hk => ?_) hcl g1 g2 _ _ c1, fun b hb => .inr ?_⟩
        · rw [c3, if_neg (by omega), b3, if_neg (by omega)]; exact hRg k hk
        · rw [c3, if_neg (by omega), b3, if_pos (by omega)]; congr 1; omega
        · rw [c3, if_pos (by omega), List.getElem?_drop]; congr 1; omega
        · simp [Value.ownBlock] at hb; omega
theorem c_insNd : CRow P0 ety0 118 sp_insNd := by
  refine ⟨?_, ent_of func118 rfl rfl⟩
  intro args p r outs hrun hq w R vs F hrel hR hFR hFl hG
  simp only [sp_insNd] at hrun
  split at hrun <;> cases hrun
  rename_i l i x
  obtain ⟨hx, h0, h1, h2⟩ := hq _ rfl
  obtain ⟨y, rfl⟩ := List.length_eq_one_iff.1 hx
  obtain ⟨hl, fs, hg, hd, hF⟩ := argsF hrel
  obtain ⟨vs⟩ := vs
  match vs, hl with
  | [u, v, t], _ =>
    have g0 := relA_own (hg 0 _ u rfl rfl)
    cases relA_int (hg 1 _ v rfl rfl)
    have g2 := relA_own (hg 2 _ t rfl rfl)
    obtain ⟨a, rfl⟩ : ∃ a : Nat, i = a := ⟨i.toNat, by omega⟩
    have h0F : ∀ b, fs 0 b → F b := fun b hb => (hF b).2 ⟨0, by simp, hb⟩
    have h2F : ∀ b, fs 2 b → F b := fun b hb => (hF b).2 ⟨2, by simp, hb⟩
    have hcall := ins_row (P := P0) .node insNd_ok (i := a) g0 g2 hR (fun b hb => hFR b (h0F b hb)) (fun b h1 h2 => by have := hd 0 2 b (by simp) (by simp) h1 h2; omega) (by omega) h2
    refine hcall.mono fun e w' h => ?_
    obtain ⟨v', F', he, ho, hF', hk⟩ := h
    have e1 : insL l a y = l.take (a : Int).toNat ++ [y] ++ l.drop (a : Int).toNat := by simp [insL]
    rw [← e1]
    refine fin_own (P := P0) rfl hR hFR he ho (fun b hb => ?_) (hk.mono h0F)
    rcases hF' b hb with h | h | h
    · exact .inl h
    · exact .inr (h0F b h)
    · exact .inr (h2F b h)
end Go.Ab
