/- strconv.Atoi, strconv.Itoa of any number, strings.TrimPrefix, strings.Split at one byte: by the kit's contracts. -/
import Derived.Test.YthncafnnekeogaaGreatDoorPlNum
import Derived.Test.YthncafnnekeogaaGreatDoorEng4
import Derived.Test.YthncafnnekeogaaGreatDoorEng4
import Derived.Test.YthncafnnekeogaaGreatDoorShelf
set_option linter.all false
set_option linter.unusedSimpArgs false
set_option linter.unusedVariables false
set_option linter.unusedSectionVars false
set_option maxRecDepth 20000
set_option maxHeartbeats 1000000
namespace Go.Ab
open Go Go.Proofs.Tryz
open Go.Lib
theorem below_grow' (w : World) (k : Nat) (os : Array Go.Obj) : Go.RowKit.Below w.heap.size w (Go.Sort.grow (w.drewN k) os) :=
  ⟨rfl, rfl, rfl, by simp [Go.Sort.grow, World.drewN], fun b hb => by
    show (w.heap ++ os)[b]? = w.heap[b]?
    rw [Array.getElem?_append_left hb]⟩
theorem relV_tup2 {X : Ctx} {a b : AV} {u v : Value} (h : RelV X a u) (k : RelV X b v) : RelV X (.tup [a, b]) (.tuple #[u, v]) := .tup _ _ rfl fun j c z hj hz => by
  match j, hj, hz with
  | 0, hj, hz => cases hj; cases hz; exact h
  | 1, hj, hz => cases hj; cases hz; exact k
noncomputable def sp_atoi : Spec := ⟨[.sc], [.rd], true, fun
  | [.str t] => some (some (t.length ≤ 281474976710656), .tup [.int .i64 (atoiV t), .err (atoiE t)], [])
  | _ => none⟩
@[push_cast] theorem sp_atoi_ps : sp_atoi.ps = [.sc] := rfl
@[push_cast] theorem sp_atoi_md : sp_atoi.modes = [.rd] := rfl
@[push_cast] theorem sp_atoi_pure : sp_atoi.pure = true := rfl
@[push_cast] theorem sp_atoi_run (t : Str) : sp_atoi.run [.str t] = some (some (t.length ≤ 281474976710656), .tup [.int .i64 (atoiV t), .err (atoiE t)], []) := rfl
theorem c_atoi : CRow P0 ety0 121 sp_atoi := by
  refine ⟨?_, ent_of func121 rfl rfl⟩
  intro args p r outs hrun hq w R vs F hrel hR hFR hFl hG
  simp only [sp_atoi] at hrun
  split at hrun <;> cases hrun
  rename_i t
  have hs := hq _ rfl
  obtain ⟨u, rfl, ⟨_, h⟩⟩ := args1 hrel
  cases relA_str h
  have hsz : (⟨t.toArray⟩ : ByteArray).size = t.length := str_size _
  have hcell : ∀ {n : String} {ev : Value}, w.var? P0 n = some #[ev] → ∀ g, P0.globalNamed n = some g → w.cell? ⟨g, 0, none⟩ = some ev := fun hv g hg => by
    have h0 := World.var?_cell hg hv 0; simpa using h0
  cases hA : atoiAll t
  · rename_i v
    refine (Go.Proofs.Tryz.strconv_Atoi_ok ⟨t.toArray⟩ (by omega) v hA w).mono fun e w' h => ?_
    obtain ⟨he, hw⟩ := h
    have hb : Go.RowKit.Below w.heap.size w w' := by
      rcases hw with rfl | ⟨t, rfl⟩
      · exact .refl _ _
      · exact bytesWorld_below _ _ _
    refine fin_plain (P := P0) rfl hR he hb fun X => ?_
    unfold atoiV atoiE
    rw [hA]
    exact relV_tup2 (.int _ _) (.err _ _ (fun _ => rfl) (fun h => by cases h))
  ·
    obtain ⟨tp, q, hv⟩ := gi_syn hG
    refine (Go.Proofs.Any.strconv_Atoi_syntax Go.Proofs.Tryz.laysC172 ⟨t.toArray⟩ (by omega) hA (.iface tp q) w (hcell hv _ (by kernel_rfl)) (.inr ⟨_, _, rfl⟩)).mono fun e w' h => ?_
    obtain ⟨N, he, _, _, hb⟩ := h
    refine fin_plain (P := P0) rfl hR he hb fun X => ?_
    unfold atoiV atoiE
    rw [hA]
    exact relV_tup2 (.int _ _) (.err _ _ (fun h => by cases h) (fun _ => ⟨_, _, rfl⟩))
  ·
    obtain ⟨tp, q, hv⟩ := gi_ran hG
    refine (Go.Proofs.Tryz.strconv_Atoi_range ⟨t.toArray⟩ (by omega) hA (.iface tp q) w (hcell hv _ (by kernel_rfl)) (.inr ⟨_, _, rfl⟩)).mono fun e w' h => ?_
    obtain ⟨N, he, _, _, hb⟩ := h
    refine fin_plain (P := P0) rfl hR he hb fun X => ?_
    unfold atoiV atoiE
    rw [hA]
    exact relV_tup2 (.int _ _) (.err _ _ (fun h => by cases h) (fun _ => ⟨_, _, rfl⟩))
noncomputable def sp_itoaA : Spec := ⟨[.sc], [.rd], true, fun
  | [.int .i64 n] => some (some (i64ok n), .str (Lib.itoa n), [])
  | _ => none⟩
@[push_cast] theorem sp_itoaA_ps : sp_itoaA.ps = [.sc] := rfl
@[push_cast] theorem sp_itoaA_md : sp_itoaA.modes = [.rd] := rfl
@[push_cast] theorem sp_itoaA_pure : sp_itoaA.pure = true := rfl
@[push_cast] theorem sp_itoaA_run (n : Int) : sp_itoaA.run [.int .i64 n] = some (some (i64ok n), .str (Lib.itoa n), []) := rfl
theorem c_itoaA : CRow P0 ety0 122 sp_itoaA := by
  refine ⟨?_, ent_of func122 rfl rfl⟩
  intro args p r outs hrun hq w R vs F hrel hR hFR hFl hG
  simp only [sp_itoaA] at hrun
  split at hrun <;> cases hrun
  rename_i n
  obtain ⟨h0, h1⟩ := hq _ rfl
  obtain ⟨u, rfl, ⟨_, h⟩⟩ := args1 hrel
  cases relA_int h
  refine (Go.Proofs.Tryz.strconv_Itoa n h0 h1 w (gi_tab hG)).mono fun e w' h => ?_
  obtain ⟨he, k, os, rfl⟩ := h
  exact fin_plain (P := P0) rfl hR he (below_grow' w k os) fun X => .str _
noncomputable def sp_trimPre : Spec := ⟨[.sc, .sc], [.rd, .rd], true, fun
  | [.str s, .str q] => some (none, .str (trimPrefix s q), [])
  | _ => none⟩
@[push_cast] theorem sp_trimPre_ps : sp_trimPre.ps = [.sc, .sc] := rfl
@[push_cast] theorem sp_trimPre_md : sp_trimPre.modes = [.rd, .rd] := rfl
@[push_cast] theorem sp_trimPre_pure : sp_trimPre.pure = true := rfl
@[push_cast] theorem sp_trimPre_run (s q : Str) : sp_trimPre.run [.str s, .str q] = some (none, .str (trimPrefix s q), []) := rfl
theorem c_trimPre : CRow P0 ety0 123 sp_trimPre := by
  refine ⟨?_, ent_of func123 rfl rfl⟩
  intro args p r outs hrun hq w R vs F hrel hR hFR hFl hG
  simp only [sp_trimPre] at hrun
  split at hrun <;> cases hrun
  rename_i s q
  obtain ⟨u, v, rfl, ⟨_, h1⟩, ⟨_, h2⟩⟩ := args2 hrel
  cases relA_str h1
  cases relA_str h2
  refine (Go.Proofs.Tryz.strings_TrimPrefix ⟨s.toArray⟩ ⟨q.toArray⟩ w).mono fun e w' h => ?_
  obtain ⟨he, rfl⟩ := h
  exact fin_plain (P := P0) rfl hR he (Go.RowKit.Below.refl _ _) fun X => .str _
noncomputable def sp_number : Spec := ⟨[.sc], [.rd], true, fun
  | [.str t] => some (some (t.length ≤ 281474976710656), .tup [.int .i64 (atoiV t), .bool (numOK t)], [])
  | _ => none⟩
@[push_cast] theorem sp_number_ps : sp_number.ps = [.sc] := rfl
@[push_cast] theorem sp_number_md : sp_number.modes = [.rd] := rfl
@[push_cast] theorem sp_number_pure : sp_number.pure = true := rfl
@[push_cast] theorem sp_number_run (t : Str) : sp_number.run [.str t] = some (some (t.length ≤ 281474976710656), .tup [.int .i64 (atoiV t), .bool (numOK t)], []) := rfl
noncomputable def e_number : Env := mk [(121, sp_atoi), (122, sp_itoaA), (123, sp_trimPre)] [] [] [] none
@[push_cast] theorem e_number_in : e_number.inl = inlF [] := rfl
@[push_cast] theorem e_number_fn : e_number.fnd = fndF none := rfl
@[push_cast] theorem e_number_gh : e_number.gh = ghOf [] := rfl
@[push_cast] theorem e_number_dr : e_number.dr = drOf [] := rfl
@[push_cast] theorem e_number_td : e_number.td = td := rfl
@[push_cast] theorem e_number_eqt : e_number.eqt = eqt := rfl
@[push_cast] theorem e_number_cal : e_number.cal = calOf [(121, sp_atoi), (122, sp_itoaA), (123, sp_trimPre)] := rfl
theorem c_number : CRow P0 ety0 75 sp_number := CRow.of (E := e_number) (mkOk (.cons c_atoi (.cons c_itoaA (.cons c_trimPre (.nil))))) func75 rfl rfl rfl (by
  intro args p r outs h hq
  simp only [sp_number] at h; split at h <;> cases h
  rename_i t
  have hs := hq _ rfl
  refine Body.intro (rs := [.tmp 2, .tmp 3]) rfl rfl rfl ?_
  apply vc_run 1000 (stop := false) rfl; simp only [push_cast, reduceIte, Nat.reduceEqDiff, Nat.reduceAdd, Nat.reduceSub, Nat.reduceLT, Int.reduceNeg, Int.reduceLE, Int.reduceLT, Int.reduceToNat, Nat.reduceLeDiff, UInt8.reduceOfNat, UInt8.reduceOfNatLT, and_self, Nat.reduceMul, decide_true, decide_false, Bool.not_true, Bool.not_false, implies_true]
  refine ⟨hs, fun _ => atoiV_ok t, ?_⟩
  rw [numOK_eq]
  have e : decide (((trimPrefix t [45]).length : Int) ≤ 18) = decide ((trimPrefix t [45]).length ≤ 18) := decide_eq_decide.2 (by omega)
  rw [e]
  cases atoiE t <;> cases decide (itoa (atoiV t) = t) <;> rfl)
theorem split_one (c : UInt8) : ∀ s : Str, Lib.split s [c] = splitS c s
  | [] => by rw [Lib.split, count_one]; rfl
  | x :: r => by
    have ih := split_one c r
    by_cases hx : x = c
    · subst hx
      have hix : index (x :: r) [x] = 0 := by rw [index]; simp [List.isPrefixOf]
      rw [Lib.split, count_cons_eq, Nat.add_comm, splitK, hix, splitS, if_pos rfl, ← ih]
      rfl
    · rw [Lib.split, count_cons_ne x c r hx, splitS, if_neg hx, ← ih, Lib.split]
      have hp : ([c] : Str).isPrefixOf (x :: r) = false := by simp [List.isPrefixOf, Ne.symm hx]
      have hix : index (x :: r) [c] = if index r [c] == -1 then -1 else index r [c] + 1 := by rw [index, hp]; simp
      cases hk : count r [c] with
      | zero => rfl
      | succ k =>
        rw [splitK, splitK, hix]
        by_cases hm : index r [c] = -1
        · simp [hm]
        · have hge := index_ge r [c]
          obtain ⟨j, hj⟩ : ∃ j : Nat, index r [c] = j := ⟨(index r [c]).toNat, by omega⟩
          rw [hj]
          have h1 : ((j : Int) == -1) = false := by rw [beq_eq_false_iff_ne]; omega
          have h2 : ((j : Int) + 1 == -1) = false := by rw [beq_eq_false_iff_ne]; omega
          have h3 : ((j : Int) + 1).toNat = j + 1 := by omega
          rw [h1]
          simp only [Bool.false_eq_true, if_false]
          rw [h2]
          simp only [Bool.false_eq_true, if_false, h3, Int.toNat_natCast]
          simp
theorem flat_strs' {ety : K → TypeId} : ∀ l : List Str, (l.map (elemCD ety .str)).flatten = l.map fun s => CD.sc (sv s)
  | [] => rfl
  | x :: r => by rw [List.map_cons, List.flatten_cons, flat_strs' r]; rfl
/-- A new row of texts. -/
theorem strs_new {w : World} {R : Nat → Prop} {l : List Str} {g : Nat} {t : TypeId} (hg : w.heap[g]? = some (.cells (l.map sv).toArray t)) (hm : l.length ≤ maxLen) :
    OwnO w R true (dataCD ety0 ⟨.str, l⟩) (.slice (some ⟨g, 0, none⟩) l.length l.length) (fun b => b = g) := by
  have hrow : ∀ row ∈ l.map (elemCD ety0 .str), row.length = 1 := fun row hr => by obtain ⟨x, _, rfl⟩ := List.mem_map.1 hr; rfl
  refine OwnO.mk (fs := fun _ _ => False) (xs := l.map sv) ?_ hrow ⟨by rw [flat_strs', List.length_map, List.length_map], fun k cd u hk hu => ?_, fun _ _ _ _ _ h => h.elim⟩ (fun _ _ _ h => h.elim) fun b => ?_
  · rw [List.length_map]
    refine ⟨by rw [List.length_map]; show _ = l.length * 1; omega, .inr ⟨g, l.length, _, (0, 0), rfl, ⟨t, hg⟩, Unf.zero _ _, Nat.le_refl _, hm, by simp [K.esz], ?_⟩⟩
    show (l.map sv).take (l.length * 1) = _
    rw [List.take_of_length_le (by rw [List.length_map]; omega)]
  · rw [flat_strs', List.getElem?_map] at hk
    rw [List.getElem?_map] at hu
    cases hx : l[k]? with
    | none => rw [hx] at hk; cases hk
    | some x =>
      rw [hx] at hk hu
      cases hk
      cases hu
      exact Own.sc _ _ fun _ h => h
  · simp [Value.ownBlock, eq_comm]
noncomputable def sp_split : Spec := ⟨[.sc, .sc], [.rd, .rd], false, fun
  | [.str s, .str [c]] => some (some (s.length ≤ 1073741823), .own true ⟨.str, splitS c s⟩, [])
  | _ => none⟩
@[push_cast] theorem sp_split_ps : sp_split.ps = [.sc, .sc] := rfl
@[push_cast] theorem sp_split_md : sp_split.modes = [.rd, .rd] := rfl
@[push_cast] theorem sp_split_pure : sp_split.pure = false := rfl
@[push_cast] theorem sp_split_run (s : Str) (c : UInt8) : sp_split.run [.str s, .str [c]] = some (some (s.length ≤ 1073741823), .own true ⟨.str, splitS c s⟩, []) := rfl
theorem c_split : CRow P0 ety0 124 sp_split := by
  refine ⟨?_, ent_of func124 rfl rfl⟩
  intro args p r outs hrun hq w R vs F hrel hR hFR hFl hG
  simp only [sp_split] at hrun
  split at hrun <;> cases hrun
  rename_i s c
  have hs := hq _ rfl
  obtain ⟨u, v, rfl, ⟨_, h1⟩, ⟨_, h2⟩⟩ := args2 hrel
  cases relA_str h1
  cases relA_str h2
  obtain ⟨w0, hk0, hw0⟩ := hG
  obtain ⟨m, hm⟩ := Go.Proofs.Tryz.laysM146.s1_3 w0 hk0.1
  refine (Go.Proofs.Tryz.strings_Split ⟨s.toArray⟩ ⟨[c].toArray⟩ m w (by rw [str_size]; omega) (gi_cell hw0 hm) (Nat.le_refl _)).mono fun e w' h => ?_
  obtain ⟨he, rfl⟩ := h
  have hlen := splitB_all ⟨#[c]⟩ (Nat.le_refl _) 0 _ (⟨s.toArray⟩ : ByteArray) rfl
  have hdat : (splitB ⟨#[c]⟩ 0 (countB ⟨s.toArray⟩ ⟨#[c]⟩) ⟨s.toArray⟩).map (·.data.toList) = splitS c s := by
    rw [splitB_data, ← split_one]; rfl
  generalize splitB ⟨#[c]⟩ 0 (countB ⟨s.toArray⟩ ⟨#[c]⟩) ⟨s.toArray⟩ = B at *
  have hl : B.length = (splitS c s).length := by rw [← hdat, List.length_map]
  have hle := splitS_len c s
  rw [← hlen, hl] at he
  have hB : B.map Value.string = (splitS c s).map sv := by rw [← hdat, List.map_map]; rfl
  rw [hB]
  refine fin_own (P := P0) rfl hR hFR he (strs_new (g := w.heap.size) (t := 9) ?_ (by unfold maxLen; omega)) (fun b hb => .inl (by rw [hb]; exact Nat.le_refl _)) (keep_of_below ((Go.RowKit.Below.refl _ _).alloc (Nat.le_refl _) _))
  exact heap_alloc_new w _
noncomputable def sp_cutS : Spec := ⟨[.sc, .sc], [.rd, .rd], true, fun
  | [.str s, .str q] => some (some (s.length < 4294967281), .tup [.str (Lib.cut s q).1, .str (Lib.cut s q).2.1, .bool (Lib.cut s q).2.2], [])
  | _ => none⟩
@[push_cast] theorem sp_cutS_ps : sp_cutS.ps = [.sc, .sc] := rfl
@[push_cast] theorem sp_cutS_md : sp_cutS.modes = [.rd, .rd] := rfl
@[push_cast] theorem sp_cutS_pure : sp_cutS.pure = true := rfl
@[push_cast] theorem sp_cutS_run (s q : Str) : sp_cutS.run [.str s, .str q] = some (some (s.length < 4294967281), .tup [.str (Lib.cut s q).1, .str (Lib.cut s q).2.1, .bool (Lib.cut s q).2.2], []) := rfl
theorem c_cutS : CRow P0 ety0 71 sp_cutS := by
  refine ⟨?_, ent_of func71 rfl rfl⟩
  intro args p r outs hrun hq w R vs F hrel hR hFR hFl hG
  simp only [sp_cutS] at hrun
  split at hrun <;> cases hrun
  rename_i s q
  have hs := hq _ rfl
  obtain ⟨u, v, rfl, ⟨_, h1⟩, ⟨_, h2⟩⟩ := args2 hrel
  cases relA_str h1
  cases relA_str h2
  obtain ⟨w0, hk0, hw0⟩ := hG
  obtain ⟨m, hm⟩ := Go.Proofs.Tryz.laysM145.s1_3 w0 hk0.1
  refine (Go.Proofs.Tryz.strings_Cut ⟨s.toArray⟩ ⟨q.toArray⟩ m w (by rw [str_size]; omega) (gi_cell hw0 hm)).mono fun e w' h => ?_
  obtain ⟨he, n, rfl⟩ := h
  exact fin_plain (P := P0) rfl hR he ⟨rfl, rfl, rfl, Nat.le_refl _, fun b _ => rfl⟩ fun X => .tup _ _ rfl fun j c z hj hz => by
    match j, hj, hz with
    | 0, hj, hz => cases hj; cases hz; exact .str _
    | 1, hj, hz => cases hj; cases hz; exact .str _
    | 2, hj, hz => cases hj; cases hz; exact .bool _
end Go.Ab
