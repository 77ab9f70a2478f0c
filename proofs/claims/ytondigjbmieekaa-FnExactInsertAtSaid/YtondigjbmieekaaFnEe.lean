/- Edits: the reference's side. -/
import Derived.Test.YtondigjbmieekaaFnEd
set_option linter.all false
set_option linter.unusedSimpArgs false
set_option linter.unusedVariables false
set_option linter.unusedSectionVars false
set_option maxRecDepth 20000
set_option maxHeartbeats 1000000
namespace Go.Ab
open Go Go.Proofs.Try
noncomputable def e_l09Ask : Env := mk [(75, sp_treeOK)] [] [] [] none
@[push_cast] theorem e_l09Ask_in : e_l09Ask.inl = inlF [] := rfl
@[push_cast] theorem e_l09Ask_fn : e_l09Ask.fnd = fndF none := rfl
@[push_cast] theorem e_l09Ask_gh : e_l09Ask.gh = ghOf [] := rfl
@[push_cast] theorem e_l09Ask_dr : e_l09Ask.dr = drOf [] := rfl
@[push_cast] theorem e_l09Ask_td : e_l09Ask.td = td := rfl
@[push_cast] theorem e_l09Ask_eqt : e_l09Ask.eqt = eqt := rfl
@[push_cast] theorem e_l09Ask_cal : e_l09Ask.cal = calOf [(75, sp_treeOK)] := rfl
theorem c_l09Ask : CRow P0 ety0 60 sp_askE := CRow.of (E := e_l09Ask) (mkOk (.cons c_treeOK2 (.nil))) func60 rfl rfl rfl (by
  intro args p r outs h hq
  simp only [sp_askE] at h; split at h <;> cases h
  rename_i l p
  have hz := hq _ rfl
  refine Body.intro (rs := [.tmp 4]) rfl rfl rfl ?_
  apply vc_run 1000 (stop := false) rfl; simp only [push_cast, reduceIte, Nat.reduceEqDiff, Nat.reduceAdd, Nat.reduceSub, Nat.reduceLT, Int.reduceNeg, Int.reduceLE, Int.reduceLT, Int.reduceToNat, Nat.reduceLeDiff, UInt8.reduceOfNat, UInt8.reduceOfNatLT, and_self, Nat.reduceMul, decide_true, decide_false, Bool.not_true, Bool.not_false, implies_true]
  rw [len_4096, len_4096p]
  unfold askE askT
  cases decide (4096 < l.length) <;> cases decide (4096 < p.length) <;> cases treeOK l <;> simp [hz])
/-- What stands at a path's end, from a node on. -/
def walkX : Node → List Int → Option Node
  | x, [] => some x
  | x, i :: q => if 0 ≤ i ∧ i.toNat < x.kids.length then walkX (x.kids.getD i.toNat nodeD) q else none
def atX (l : List Node) (p : List Int) : Node := (walkX (.mk 0 0 [] [] [] l) p).getD nodeD
theorem walkX_at : ∀ (q : List Int) (x : Node) (i : Int), walkX x (i :: q) = atP x.kids (i :: q)
  | [], x, i => by
    by_cases h : 0 ≤ i ∧ i.toNat < x.kids.length
    · rw [atP_one h, walkX, if_pos h, walkX]; rfl
    · rw [atP_out h, walkX, if_neg h]
  | j :: q, x, i => by
    by_cases h : 0 ≤ i ∧ i.toNat < x.kids.length
    · rw [atP_two h, walkX, if_pos h, walkX_at q]; rfl
    · rw [atP_out h, walkX, if_neg h]
theorem atX_atN {l : List Node} {p : List Int} (h : (atP l p).isNone = false) : atX l p = atN l p := by
  cases p with
  | nil => simp [atP] at h
  | cons i q => unfold atX atN; rw [walkX_at]; rfl
noncomputable def sp_atX : Spec := ⟨[.sl .node, .sl .int], [.rd, .rd], true, fun
  | [.dat ⟨.node, l⟩, .dat ⟨.int, p⟩] => some (some (szL szNd l ≤ 1048576 ∧ p.length ≤ 1048576), .tup [.agg [.int .i64 (atX l p).kind, .int .i64 (atX l p).space, .str (atX l p).name, .str (atX l p).text, .dat ⟨.attr, (atX l p).attrs⟩, .dat ⟨.node, (atX l p).kids⟩], .bool (!(atP l p).isNone)], [])
  | _ => none⟩
@[push_cast] theorem sp_atX_ps : sp_atX.ps = [.sl .node, .sl .int] := rfl
@[push_cast] theorem sp_atX_md : sp_atX.modes = [.rd, .rd] := rfl
@[push_cast] theorem sp_atX_pure : sp_atX.pure = true := rfl
@[push_cast] theorem sp_atX_run (l : List Node) (p : List Int) : sp_atX.run [.dat ⟨.node, l⟩, .dat ⟨.int, p⟩] = some (some (szL szNd l ≤ 1048576 ∧ p.length ≤ 1048576), .tup [.agg [.int .i64 (atX l p).kind, .int .i64 (atX l p).space, .str (atX l p).name, .str (atX l p).text, .dat ⟨.attr, (atX l p).attrs⟩, .dat ⟨.node, (atX l p).kids⟩], .bool (!(atP l p).isNone)], []) := rfl
noncomputable def e_l03At : Env := mk [(76, sp_within)] [(5, [], []), (7, [8], [])] [(7, [.nbd .attr 6 4]), (2000000, [.nbd .attr 4 4, .nbd .node 4 5])] [] none
@[push_cast] theorem e_l03At_in : e_l03At.inl = inlF [] := rfl
@[push_cast] theorem e_l03At_fn : e_l03At.fnd = fndF none := rfl
@[push_cast] theorem e_l03At_gh : e_l03At.gh = ghOf [(7, [.nbd .attr 6 4]), (2000000, [.nbd .attr 4 4, .nbd .node 4 5])] := rfl
@[push_cast] theorem e_l03At_dr : e_l03At.dr = drOf [(5, [], []), (7, [8], [])] := rfl
@[push_cast] theorem e_l03At_td : e_l03At.td = td := rfl
@[push_cast] theorem e_l03At_eqt : e_l03At.eqt = eqt := rfl
@[push_cast] theorem e_l03At_cal : e_l03At.cal = calOf [(76, sp_within)] := rfl
theorem c_l03At : CRow P0 ety0 77 sp_atX := CRow.of (E := e_l03At) (mkOk (.cons c_within2 (.nil))) func77 rfl rfl rfl (by
  intro args p r outs h hq
  simp only [sp_atX] at h; split at h <;> cases h
  rename_i l p
  obtain ⟨hz, hp⟩ := hq _ rfl
  refine Body.intro (rs := [.cell 4 69, .tmp 5]) rfl rfl rfl ?_
  apply vc_run 1000 (stop := false) rfl; simp only [push_cast, reduceIte, Nat.reduceEqDiff, Nat.reduceAdd, Nat.reduceSub, Nat.reduceLT, Int.reduceNeg, Int.reduceLE, Int.reduceLT, Int.reduceToNat, Nat.reduceLeDiff, UInt8.reduceOfNat, UInt8.reduceOfNatLT, and_self, Nat.reduceMul, decide_true, decide_false, Bool.not_true, Bool.not_false, implies_true]
  refine Run.loop [5, 7] [1, 4, 6] [0, 1] rfl (fun n vs bs => ∃ (j : Nat) (x : Node), vs = [.bool false, .int .i64 j] ∧ bs = [[.int .i64 0, .int .i64 0, .str [], .str [], .nilS, .nilS], [.int .i64 x.kind, .int .i64 x.space, .str x.name, .str x.text, .dat ⟨.attr, x.attrs⟩, .dat ⟨.node, x.kids⟩]] ∧ j ≤ p.length ∧ walkX (.mk 0 0 [] [] [] l) p = walkX x (p.drop j) ∧ szL szNd x.kids ≤ 1048576 ∧ n = p.length - j) p.length ?_ ?_
  · simp only [push_cast, reduceIte, Nat.reduceEqDiff, Nat.reduceAdd, Nat.reduceSub, Nat.reduceLT, Int.reduceNeg, Int.reduceLE, Int.reduceLT, Int.reduceToNat, Nat.reduceLeDiff, UInt8.reduceOfNat, UInt8.reduceOfNatLT, and_self, Nat.reduceMul, decide_true, decide_false, Bool.not_true, Bool.not_false, implies_true]
    exact ⟨0, .mk 0 0 [] [] [] l, rfl, rfl, by omega, rfl, hz, by omega⟩
  rintro n vs bs ⟨j, x, rfl, rfl, hj, hw, hx, rfl⟩
  simp only [push_cast, reduceIte, Nat.reduceEqDiff, Nat.reduceAdd, Nat.reduceSub, Nat.reduceLT, Int.reduceNeg, Int.reduceLE, Int.reduceLT, Int.reduceToNat, Nat.reduceLeDiff, UInt8.reduceOfNat, UInt8.reduceOfNatLT, and_self, Nat.reduceMul, decide_true, decide_false, Bool.not_true, Bool.not_false, implies_true]
  apply vc_run 1000 (stop := false) rfl; simp only [push_cast, reduceIte, Nat.reduceEqDiff, Nat.reduceAdd, Nat.reduceSub, Nat.reduceLT, Int.reduceNeg, Int.reduceLE, Int.reduceLT, Int.reduceToNat, Nat.reduceLeDiff, UInt8.reduceOfNat, UInt8.reduceOfNatLT, and_self, Nat.reduceMul, decide_true, decide_false, Bool.not_true, Bool.not_false, implies_true]
  have hP : p ≠ [] → atP l p = walkX (.mk 0 0 [] [] [] l) p := fun h => by
    cases p with
    | nil => exact absurd rfl h
    | cons i q => exact (walkX_at q (.mk 0 0 [] [] [] l) i).symm
  have hxl := szL_len szNd x.kids
  refine ⟨fun hlt => ?_, fun hge => ?_⟩
  · have hlt : j < p.length := Int.ofNat_lt.1 (of_decide_eq_true hlt)
    have hne : p ≠ [] := fun e => by rw [e] at hlt; exact absurd hlt (Nat.not_lt_zero _)
    have hd : p.drop j = p.getD j 0 :: p.drop (j + 1) := by rw [List.drop_eq_getElem_cons hlt]; simp [List.getD, hlt]
    rw [hd, walkX] at hw
    simp only [gd_nat]
    generalize p.getD j 0 = y at hw
    refine ⟨by omega, by constructor <;> omega, fun h => ?_, fun h => ?_⟩
    · have h' : ¬ (0 ≤ y ∧ y.toNat < x.kids.length) := fun hh => by
        have : within y 0 ((x.kids.length : Int) - 1) = true := by
          rw [within, Bool.and_eq_true]; exact ⟨decide_eq_true hh.1, decide_eq_true (by omega)⟩
        rw [this] at h; cases h
      rw [if_neg h'] at hw
      have e1 : atX l p = nodeD := by unfold atX; rw [hw]; rfl
      have e2 : (atP l p).isNone = true := by rw [hP hne, hw]; rfl
      rw [e1, e2]; rfl
    · have h' : within y 0 ((x.kids.length : Int) - 1) = true := by simpa using h
      rw [within, Bool.and_eq_true] at h'
      have h1 := of_decide_eq_true h'.1
      have h2 := of_decide_eq_true h'.2
      rw [if_pos ⟨h1, by omega⟩] at hw
      have hs := szL_at szNd nodeD (show y.toNat < x.kids.length by omega)
      have hs2 := szNd_eq (x.kids.getD y.toNat nodeD)
      exact ⟨by omega, ⟨h1, by omega⟩, by constructor <;> omega, _, by omega, j + 1, x.kids.getD y.toNat nodeD, rfl, rfl, by omega, hw, by omega, rfl⟩
  · have hge : j = p.length := by have := of_decide_eq_false hge; omega
    subst hge
    rw [List.drop_length, walkX] at hw
    have e1 : atX l p = x := by unfold atX; rw [hw]; rfl
    rw [e1]
    cases p with
    | nil => rfl
    | cons i q =>
      rw [hP (by simp), hw]
      have : decide ((0 : Int) < ((i :: q).length : Nat)) = true := decide_eq_true (by simp only [List.length_cons]; omega)
      rw [this]; rfl)
noncomputable def sp_elX : Spec := ⟨[.sl .node, .sl .int], [.rd, .rd], true, fun
  | [.dat ⟨.node, l⟩, .dat ⟨.int, p⟩] => some (some (szL szNd l ≤ 1048576 ∧ p.length ≤ 1048576), .tup [.agg [.int .i64 (atX l p).kind, .int .i64 (atX l p).space, .str (atX l p).name, .str (atX l p).text, .dat ⟨.attr, (atX l p).attrs⟩, .dat ⟨.node, (atX l p).kids⟩], .int .i64 (elC l p)], [])
  | _ => none⟩
@[push_cast] theorem sp_elX_ps : sp_elX.ps = [.sl .node, .sl .int] := rfl
@[push_cast] theorem sp_elX_md : sp_elX.modes = [.rd, .rd] := rfl
@[push_cast] theorem sp_elX_pure : sp_elX.pure = true := rfl
@[push_cast] theorem sp_elX_run (l : List Node) (p : List Int) : sp_elX.run [.dat ⟨.node, l⟩, .dat ⟨.int, p⟩] = some (some (szL szNd l ≤ 1048576 ∧ p.length ≤ 1048576), .tup [.agg [.int .i64 (atX l p).kind, .int .i64 (atX l p).space, .str (atX l p).name, .str (atX l p).text, .dat ⟨.attr, (atX l p).attrs⟩, .dat ⟨.node, (atX l p).kids⟩], .int .i64 (elC l p)], []) := rfl
noncomputable def e_l09Element : Env := mk [(77, sp_atX)] [] [] [] none
@[push_cast] theorem e_l09Element_in : e_l09Element.inl = inlF [] := rfl
@[push_cast] theorem e_l09Element_fn : e_l09Element.fnd = fndF none := rfl
@[push_cast] theorem e_l09Element_gh : e_l09Element.gh = ghOf [] := rfl
@[push_cast] theorem e_l09Element_dr : e_l09Element.dr = drOf [] := rfl
@[push_cast] theorem e_l09Element_td : e_l09Element.td = td := rfl
@[push_cast] theorem e_l09Element_eqt : e_l09Element.eqt = eqt := rfl
@[push_cast] theorem e_l09Element_cal : e_l09Element.cal = calOf [(77, sp_atX)] := rfl
theorem c_l09Element : CRow P0 ety0 62 sp_elX := CRow.of (E := e_l09Element) (mkOk (.cons c_l03At (.nil))) func62 rfl rfl rfl (by
  intro args p r outs h hq
  simp only [sp_elX] at h; split at h <;> cases h
  rename_i l p
  obtain ⟨hz, hp⟩ := hq _ rfl
  refine Body.intro (rs := [.cell 4 69, .tmp 5]) rfl rfl rfl ?_
  apply vc_run 1000 (stop := false) rfl; simp only [push_cast, reduceIte, Nat.reduceEqDiff, Nat.reduceAdd, Nat.reduceSub, Nat.reduceLT, Int.reduceNeg, Int.reduceLE, Int.reduceLT, Int.reduceToNat, Nat.reduceLeDiff, UInt8.reduceOfNat, UInt8.reduceOfNatLT, and_self, Nat.reduceMul, decide_true, decide_false, Bool.not_true, Bool.not_false, implies_true]
  refine ⟨⟨hz, hp⟩, fun h => ?_, fun h => ⟨fun h2 => ?_, fun h2 => ?_⟩⟩
  · rw [elC, show (atP l p).isNone = true by simpa using h]; rfl
  · have hs : (atP l p).isNone = false := by simpa using h
    rw [elC, hs, ← atX_atN hs, h2]; rfl
  · have hs : (atP l p).isNone = false := by simpa using h
    rw [elC, hs, ← atX_atN hs, h2]; rfl)
def putL : List Node → List Int → List Node → List Node
  | l, [], _ => l
  | l, i :: q, r => match q with
    | [] => l.take i.toNat ++ r ++ l.drop (i.toNat + 1)
    | _ :: _ => l.take i.toNat ++ [setK (l.getD i.toNat nodeD) (putL (l.getD i.toNat nodeD).kids q r)] ++ l.drop (i.toNat + 1)
theorem set_split {α : Type} {l : List α} {i : Nat} (x : α) (h : i < l.length) : l.take i ++ [x] ++ l.drop (i + 1) = l.set i x := by
  rw [List.set_eq_take_append_cons_drop, if_pos h, List.append_assoc]; rfl
theorem putL_put : ∀ (p : List Int) (l : List Node) (x : Node), (atP l p).isNone = false → putL l p [x] = putP l p x
  | [], l, x, h => by simp [atP] at h
  | i :: q, l, x, h => by
    by_cases hi : 0 ≤ i ∧ i.toNat < l.length
    · match q with
      | [] => rw [putL, putP_one hi, set_split x hi.2]
      | j :: q =>
        rw [atP_two hi] at h
        have h2 : putL (l.getD i.toNat nodeD).kids (j :: q) [x] = putP (l.getD i.toNat nodeD).kids (j :: q) x := putL_put (j :: q) _ x h
        rw [putL, putP_two hi, set_split _ hi.2, h2]; rfl
    · rw [atP_out hi] at h; cases h
noncomputable def sp_putLs (z : Nat) : Spec := ⟨[.sl .node, .sl .int, .sl .node], [.rd, .rd, .tk], false, fun
  | [.dat ⟨.node, l⟩, .dat ⟨.int, p⟩, .own o ⟨.node, r⟩] => some (some (p.length < z ∧ szL szNd l ≤ 1048576 ∧ p.length ≤ 1048576 ∧ r.length ≤ 1048576 ∧ (atP l p).isNone = false), .own false ⟨.node, putL l p r⟩, [])
  | _ => none⟩
@[push_cast] theorem sp_putLs_ps (z : Nat) : (sp_putLs z).ps = [.sl .node, .sl .int, .sl .node] := rfl
@[push_cast] theorem sp_putLs_md (z : Nat) : (sp_putLs z).modes = [.rd, .rd, .tk] := rfl
@[push_cast] theorem sp_putLs_pure (z : Nat) : (sp_putLs z).pure = false := rfl
@[push_cast] theorem sp_putLs_run (z : Nat) (l : List Node) (p : List Int) (o : Bool) (r : List Node) : (sp_putLs z).run [.dat ⟨.node, l⟩, .dat ⟨.int, p⟩, .own o ⟨.node, r⟩] = some (some (p.length < z ∧ szL szNd l ≤ 1048576 ∧ p.length ≤ 1048576 ∧ r.length ≤ 1048576 ∧ (atP l p).isNone = false), .own false ⟨.node, putL l p r⟩, []) := rfl
theorem cut_0 {α : Type} (l : List α) (i : Int) : cut l 0 i = l.take i.toNat := rfl
theorem cut_end {α : Type} (l : List α) (i : Int) : cut l i (l.length : Nat) = l.drop i.toNat := by
  unfold cut
  rw [Int.toNat_natCast, List.take_length]
theorem setK_mk (x : Node) (ks : List Node) : Node.mk x.kind x.space x.name x.text x.attrs ks = setK x ks := by cases x; rfl
noncomputable def e_l09Put_ (z : Nat) : Env := mk [(64, (sp_putLs z))] [(4, [2, 7], [[], [], [], [0], [0], [0], [0]]), (6, [5, 7], []), (7, [2, 3, 8], [[1], [], [], [], [0, 1], [0, 1], [0, 1], [0, 1]])] [] [] none
@[push_cast] theorem e_l09Put__in (z : Nat) : (e_l09Put_ z).inl = inlF [] := rfl
@[push_cast] theorem e_l09Put__fn (z : Nat) : (e_l09Put_ z).fnd = fndF none := rfl
@[push_cast] theorem e_l09Put__gh (z : Nat) : (e_l09Put_ z).gh = ghOf [] := rfl
@[push_cast] theorem e_l09Put__dr (z : Nat) : (e_l09Put_ z).dr = drOf [(4, [2, 7], [[], [], [], [0], [0], [0], [0]]), (6, [5, 7], []), (7, [2, 3, 8], [[1], [], [], [], [0, 1], [0, 1], [0, 1], [0, 1]])] := rfl
@[push_cast] theorem e_l09Put__td (z : Nat) : (e_l09Put_ z).td = td := rfl
@[push_cast] theorem e_l09Put__eqt (z : Nat) : (e_l09Put_ z).eqt = eqt := rfl
@[push_cast] theorem e_l09Put__cal (z : Nat) : (e_l09Put_ z).cal = calOf [(64, (sp_putLs z))] := rfl
theorem c_l09Put_ (z : Nat) (h_putLs : CRow P0 ety0 64 (sp_putLs z)) : CRow P0 ety0 64 (sp_putLs (z+1)) := CRow.of (E := (e_l09Put_ z)) (mkOk (.cons h_putLs (.nil))) func64 rfl rfl rfl (by
  intro args p r outs h hq
  simp only [sp_putLs] at h; split at h <;> cases h
  rename_i l p o r
  change List Int at p
  obtain ⟨hn, hz, hp, hr, hs⟩ := hq _ rfl
  refine Body.intro (rs := [.tmp 6]) rfl rfl rfl ?_
  apply vc_run 1000 (stop := false) rfl; simp only [push_cast, reduceIte, Nat.reduceEqDiff, Nat.reduceAdd, Nat.reduceSub, Nat.reduceLT, Int.reduceNeg, Int.reduceLE, Int.reduceLT, Int.reduceToNat, Nat.reduceLeDiff, UInt8.reduceOfNat, UInt8.reduceOfNatLT, and_self, Nat.reduceMul, decide_true, decide_false, Bool.not_true, Bool.not_false, implies_true]
  clear hq
  cases p with
  | nil => simp [atP] at hs
  | cons i q =>
    have e1 : gd (i :: q) 0 (0 : Int) = i := rfl
    have e2 : cut (i :: q) 1 ((i :: q).length : Nat) = q := by rw [cut_end]; rfl
    rw [e1, e2, cut_0, cut_end, setK_mk]
    have hl := szL_len szNd l
    by_cases hi : 0 ≤ i ∧ i.toNat < l.length
    · have hi0 := hi.1
      have e3 : (i + 1).toNat = i.toNat + 1 := by omega
      have e4 : gd l nodeD i = l.getD i.toNat nodeD := rfl
      rw [e3, e4]
      have hk := szL_at szNd nodeD hi.2
      have hk2 := szNd_eq (l.getD i.toNat nodeD)
      simp only [List.length_cons] at hn hp ⊢
      refine ⟨by omega, ⟨hi.1, by omega⟩, by unfold sizeOk; rw [List.length_take]; omega, fun h1 => ?_, fun h1 => ?_⟩
      · have hq0 : q = [] := by
          have := of_decide_eq_true h1
          exact List.eq_nil_of_length_eq_zero (by omega)
        subst hq0
        refine ⟨by unfold sizeOk; rw [List.length_take]; omega, by constructor <;> omega, ⟨by omega, by omega, by omega⟩, by unfold sizeOk; rw [List.length_take, List.length_drop]; omega, ?_⟩
        rw [putL, ← List.append_assoc]
      · have hq0 : q ≠ [] := fun e => by
          have := of_decide_eq_false h1
          rw [e] at this; simp at this
        obtain ⟨j, q', rfl⟩ : ∃ j q', q = j :: q' := by
          cases q with
          | nil => exact absurd rfl hq0
          | cons j q' => exact ⟨j, q', rfl⟩
        rw [atP_two hi] at hs
        refine ⟨⟨hi.1, by omega⟩, ⟨by omega, by omega⟩, ⟨by omega, by omega, by omega, hr, hs⟩, by unfold sizeOk; rw [List.length_take]; omega, by constructor <;> omega, ⟨by omega, by omega, by omega⟩, by unfold sizeOk; rw [List.length_take, List.length_drop]; omega, ?_⟩
        rw [putL, List.append_assoc]; rfl
    · rw [atP_out hi] at hs; cases hs)
noncomputable def sp_putLA : Spec := ⟨[.sl .node, .sl .int, .sl .node], [.rd, .rd, .tk], false, fun
  | [.dat ⟨.node, l⟩, .dat ⟨.int, p⟩, .own o ⟨.node, r⟩] => some (some (szL szNd l ≤ 1048576 ∧ p.length ≤ 1048576 ∧ r.length ≤ 1048576 ∧ (atP l p).isNone = false), .own false ⟨.node, putL l p r⟩, [])
  | _ => none⟩
@[push_cast] theorem sp_putLA_ps : sp_putLA.ps = [.sl .node, .sl .int, .sl .node] := rfl
@[push_cast] theorem sp_putLA_md : sp_putLA.modes = [.rd, .rd, .tk] := rfl
@[push_cast] theorem sp_putLA_pure : sp_putLA.pure = false := rfl
@[push_cast] theorem sp_putLA_run (l : List Node) (p : List Int) (o : Bool) (r : List Node) : sp_putLA.run [.dat ⟨.node, l⟩, .dat ⟨.int, p⟩, .own o ⟨.node, r⟩] = some (some (szL szNd l ≤ 1048576 ∧ p.length ≤ 1048576 ∧ r.length ≤ 1048576 ∧ (atP l p).isNone = false), .own false ⟨.node, putL l p r⟩, []) := rfl
theorem r_putLs : ∀ z, CRow P0 ety0 64 (sp_putLs z)
  | 0 => .absurd (fun args p r outs h hq => by
      simp only [sp_putLs] at h; split at h <;> cases h
      exact absurd (hq _ rfl).1 (Nat.not_lt_zero _)) (ent_of func64 rfl rfl)
  | z + 1 => c_l09Put_ z (r_putLs z)
theorem c_l09Put : CRow P0 ety0 64 sp_putLA := .all (spn := sp_putLs) (fun _ => rfl) r_putLs (fun args p r outs h hq => by
  simp only [sp_putLA] at h; split at h <;> cases h
  rename_i l p o r
  exact ⟨p.length + 1, _, rfl, fun q hq' => by cases hq'; exact ⟨Nat.lt_succ_self _, hq _ rfl⟩⟩)
noncomputable def sp_doneX : Spec := ⟨[.sl .node], [.rd], false, fun
  | [.dat ⟨.node, l⟩] => some (some (szL szNd l ≤ 1048576), .tup [.own true ⟨.node, doneR l⟩, .int .i64 (doneC l)], [])
  | _ => none⟩
@[push_cast] theorem sp_doneX_ps : sp_doneX.ps = [.sl .node] := rfl
@[push_cast] theorem sp_doneX_md : sp_doneX.modes = [.rd] := rfl
@[push_cast] theorem sp_doneX_pure : sp_doneX.pure = false := rfl
@[push_cast] theorem sp_doneX_run (l : List Node) : sp_doneX.run [.dat ⟨.node, l⟩] = some (some (szL szNd l ≤ 1048576), .tup [.own true ⟨.node, doneR l⟩, .int .i64 (doneC l)], []) := rfl
noncomputable def e_l09Done : Env := mk [(75, sp_treeOK), (68, sp_clonedT)] [] [] [] none
@[push_cast] theorem e_l09Done_in : e_l09Done.inl = inlF [] := rfl
@[push_cast] theorem e_l09Done_fn : e_l09Done.fnd = fndF none := rfl
@[push_cast] theorem e_l09Done_gh : e_l09Done.gh = ghOf [] := rfl
@[push_cast] theorem e_l09Done_dr : e_l09Done.dr = drOf [] := rfl
@[push_cast] theorem e_l09Done_td : e_l09Done.td = td := rfl
@[push_cast] theorem e_l09Done_eqt : e_l09Done.eqt = eqt := rfl
@[push_cast] theorem e_l09Done_cal : e_l09Done.cal = calOf [(75, sp_treeOK), (68, sp_clonedT)] := rfl
theorem c_l09Done : CRow P0 ety0 63 sp_doneX := CRow.of (E := e_l09Done) (mkOk (.cons c_treeOK2 (.cons c_l03Copy (.nil)))) func63 rfl rfl rfl (by
  intro args p r outs h hq
  simp only [sp_doneX] at h; split at h <;> cases h
  rename_i l
  have hz := hq _ rfl
  refine Body.intro (rs := [.tmp 2, .tmp 3]) rfl rfl rfl ?_
  apply vc_run 1000 (stop := false) rfl; simp only [push_cast, reduceIte, Nat.reduceEqDiff, Nat.reduceAdd, Nat.reduceSub, Nat.reduceLT, Int.reduceNeg, Int.reduceLE, Int.reduceLT, Int.reduceToNat, Nat.reduceLeDiff, UInt8.reduceOfNat, UInt8.reduceOfNatLT, and_self, Nat.reduceMul, decide_true, decide_false, Bool.not_true, Bool.not_false, implies_true]
  refine ⟨hz, fun h => ?_, fun h => ⟨hz, ?_⟩⟩
  · rw [doneR, doneC, show treeOK l = false by simpa using h]; rfl
  · rw [doneR, doneC, show treeOK l = true by simpa using h]; rfl)
theorem attrsOK_one (a : Attr) : attrsOK [a] = attrOK a := by
  simp [attrsOK, attrAtOK]
theorem attrs_names {ys : List Attr} (h : attrsOK ys = true) {i j : Nat} (hi : i < ys.length) (hj : j < i) : (ys.getD j attrD).name ≠ (ys.getD i attrD).name := fun e => by
  rw [attrsOK, Bool.and_eq_true, List.all_eq_true] at h
  have := h.2 i (List.mem_range.2 hi)
  rw [attrAtOK, Bool.and_eq_true] at this
  have hn : (ys.take i).any (isNamed (ys.getD i attrD).name) = false := by simpa using this.2
  rw [List.any_eq_false] at hn
  have hm : ys.getD j attrD ∈ ys.take i := by
    rw [List.mem_iff_getElem]
    refine ⟨j, by rw [List.length_take]; omega, ?_⟩
    rw [List.getElem_take]
    simp [List.getD, show j < ys.length by omega]
  exact hn _ hm (decide_eq_true e)
def mapA (a : Attr) (ys : List Attr) : List Attr := ys.map fun b => bif isNm a.name b then a else b
theorem mapA_set {x : Node} (hk : x.kind = 1) (h : ownNd x = true) (a : Attr) : (bif x.attrs.any (isNm a.name) then mapA a x.attrs else x.attrs ++ [a]) = setAs x.attrs a := by
  have ho : attrsOK x.attrs = true := by
    rw [ownNd, Bool.or_eq_true] at h
    rcases h with h | h
    · simp only [Bool.and_eq_true] at h; exact h.2.1.2
    · simp only [Bool.and_eq_true, Bool.or_eq_true, decide_eq_true_eq, hk] at h
      rcases h.1 with h | h <;> cases h
  generalize x.attrs = ys at *
  unfold setAs
  cases hx : ys.findIdx? (isNm a.name) with
  | none =>
    have : ys.any (isNm a.name) = false := by rw [List.any_eq_false]; intro b hb; simpa using List.findIdx?_eq_none_iff.1 hx b hb
    rw [this]; rfl
  | some i =>
    obtain ⟨hi, hp, hb⟩ := List.findIdx?_eq_some_iff_getElem.1 hx
    have : ys.any (isNm a.name) = true := by rw [List.any_eq_true]; exact ⟨_, List.getElem_mem hi, hp⟩
    rw [this]
    show mapA a ys = ys.set i a
    apply List.ext_getElem?
    intro k
    rw [mapA, List.getElem?_map, List.getElem?_set]
    by_cases hki : i = k
    · subst hki
      rw [if_pos rfl, if_pos hi, List.getElem?_eq_getElem hi]
      show some (bif isNm a.name ys[i] then a else ys[i]) = _
      rw [hp]; rfl
    · rw [if_neg hki]
      by_cases hk2 : k < ys.length
      · rw [List.getElem?_eq_getElem hk2]
        show some (bif isNm a.name ys[k] then a else ys[k]) = _
        have : isNm a.name ys[k] = false := by
          cases hh : isNm a.name ys[k] with
          | false => rfl
          | true =>
            have e1 : ys[k].name = a.name := of_decide_eq_true hh
            have e2 : ys[i].name = a.name := of_decide_eq_true hp
            have g1 : ys.getD k attrD = ys[k] := by simp [List.getD, hk2]
            have g2 : ys.getD i attrD = ys[i] := by simp [List.getD, hi]
            rcases Nat.lt_or_gt_of_ne hki with hlt | hgt
            · exact absurd (by rw [g1, g2, e1, e2]) (attrs_names ho hk2 hlt)
            · exact absurd (by rw [g1, g2, e1, e2]) (attrs_names ho hi hgt)
        rw [this]; rfl
      · rw [List.getElem?_eq_none (by omega)]; rfl
theorem mapA_step (a : Attr) {ys : List Attr} {j : Nat} (h : j < ys.length) : mapA a (ys.take (j + 1)) = mapA a (ys.take j) ++ [bif isNm a.name (ys.getD j attrD) then a else ys.getD j attrD] := by
  rw [List.take_succ_eq_append_getElem h, mapA, List.map_append, mapA]
  simp [List.getD, h]
noncomputable def e_SetAttr2 : Env := mk [(60, sp_askE), (61, sp_attrsOK), (62, sp_elX), (64, sp_putLA), (63, sp_doneX)] [(16, [], [])] [] [] none
@[push_cast] theorem e_SetAttr2_in : e_SetAttr2.inl = inlF [] := rfl
@[push_cast] theorem e_SetAttr2_fn : e_SetAttr2.fnd = fndF none := rfl
@[push_cast] theorem e_SetAttr2_gh : e_SetAttr2.gh = ghOf [] := rfl
@[push_cast] theorem e_SetAttr2_dr : e_SetAttr2.dr = drOf [(16, [], [])] := rfl
@[push_cast] theorem e_SetAttr2_td : e_SetAttr2.td = td := rfl
@[push_cast] theorem e_SetAttr2_eqt : e_SetAttr2.eqt = eqt := rfl
@[push_cast] theorem e_SetAttr2_cal : e_SetAttr2.cal = calOf [(60, sp_askE), (61, sp_attrsOK), (62, sp_elX), (64, sp_putLA), (63, sp_doneX)] := rfl
theorem c_SetAttr2 : CRow P0 ety0 27 sp_SetA := CRow.of (E := e_SetAttr2) (mkOk (.cons c_l09Ask (.cons c_attrsOK2 (.cons c_l09Element (.cons c_l09Put (.cons c_l09Done (.nil))))))) func27 rfl rfl rfl (by
  intro args p r outs h hq
  simp only [sp_SetA] at h; split at h <;> cases h
  rename_i l p m v
  obtain ⟨hz, ha⟩ := hq _ rfl
  refine Body.intro (rs := [.tmp 6, .tmp 7]) rfl rfl rfl ?_
  apply vc_run 1000 (stop := false) rfl; simp only [push_cast, reduceIte, Nat.reduceEqDiff, Nat.reduceAdd, Nat.reduceSub, Nat.reduceLT, Int.reduceNeg, Int.reduceLE, Int.reduceLT, Int.reduceToNat, Nat.reduceLeDiff, UInt8.reduceOfNat, UInt8.reduceOfNatLT, and_self, Nat.reduceMul, decide_true, decide_false, Bool.not_true, Bool.not_false, implies_true]
  have hT : elC l p = 0 → (atP l p).isNone = false ∧ (atN l p).kind = 1 := fun h => by
    unfold elC at h
    cases hs : (atP l p).isNone with
    | true => rw [hs] at h; cases h
    | false =>
      rw [hs, cond_false] at h
      by_cases hk : (atN l p).kind = 1
      · exact ⟨rfl, hk⟩
      · rw [decide_eq_false hk] at h; cases h
  rw [attrsOK_one, len_4096, len_4096p]
  refine ⟨fun h => ?_, fun h => ⟨hz, fun h2 => ?_, fun h2 => ?_⟩⟩
  · have : askE l p = 2 := by
      unfold askE askT
      revert h
      cases decide (4096 < l.length) <;> cases decide (4096 < p.length) <;> simp
    rw [seR, seC, this]; rfl
  · have h' : decide (askE l p = 0) = false := by simpa using h2
    rw [seR, seC, h']
    simp only [Bool.not_false, cond_true, h']; rfl
  have hE : askE l p = 0 := by simpa using h2
  obtain ⟨hp, htt⟩ := askE_0 hE
  have ht := (askT_0 htt).2
  have hC : seC l p ⟨m, v⟩ = stC l p ⟨m, v⟩ := by rw [seC, hE]; rfl
  rw [seR, hC]
  refine ⟨by have : szL szAt [(⟨m, v⟩ : Attr)] = 1 + (m.length + v.length) := by simp [szL, sumL, szAt]
             omega, fun h3 => ?_, fun h3 => ⟨⟨hz, by omega⟩, fun h4 => ?_, fun h4 => ?_⟩⟩
  · rw [stC, h3]; rfl
  · have h' : decide (elC l p = 0) = false := by simpa using h4
    rw [stC, h3, h']
    simp only [Bool.not_false, cond_true, cond_false, h']
  have hA : attrOK ⟨m, v⟩ = true := by simpa using h3
  have hL : elC l p = 0 := by simpa using h4
  obtain ⟨hs, hk⟩ := hT hL
  have hC2 : stC l p ⟨m, v⟩ = doneC (setT l p ⟨m, v⟩) := by rw [stC, h3, hL]; rfl
  have hsz := setT_sz ht hA hs
  have hown := ownNd_sz (at_own ht hs)
  have hal := szL_len szAt (atN l p).attrs
  have hmp := mapA_set hk (at_own ht hs) ⟨m, v⟩
  rw [hC2, atX_atN hs]
  clear hq h h2 h3 h4 hC hC2
  refine ⟨by unfold sizeOk; omega, ?_⟩
  refine Run.loop [12, 13] [0, 1, 5, 9, 11] [0, 2, 1000004] rfl (fun n vs bs => ∃ j : Nat, vs = [.bool (((atN l p).attrs.take j).any (isNm m)), .int .i64 j] ∧
    bs = [[.str m, .str v], [.int .i64 (atN l p).kind, .int .i64 (atN l p).space, .str (atN l p).name, .str (atN l p).text, .dat ⟨.attr, (atN l p).attrs⟩, .dat ⟨.node, (atN l p).kids⟩], [.own true ⟨.attr, mapA ⟨m, v⟩ ((atN l p).attrs.take j) ++ (atN l p).attrs.drop j⟩]] ∧ j ≤ (atN l p).attrs.length ∧ n = (atN l p).attrs.length - j) (atN l p).attrs.length ?_ ?_
  · simp only [push_cast, reduceIte, Nat.reduceEqDiff, Nat.reduceAdd, Nat.reduceSub, Nat.reduceLT, Int.reduceNeg, Int.reduceLE, Int.reduceLT, Int.reduceToNat, Nat.reduceLeDiff, UInt8.reduceOfNat, UInt8.reduceOfNatLT, and_self, Nat.reduceMul, decide_true, decide_false, Bool.not_true, Bool.not_false, implies_true]
    exact ⟨0, by simp, by simp [mapA], by omega, by omega⟩
  rintro n vs bs ⟨j, rfl, rfl, hj, rfl⟩
  simp only [push_cast, reduceIte, Nat.reduceEqDiff, Nat.reduceAdd, Nat.reduceSub, Nat.reduceLT, Int.reduceNeg, Int.reduceLE, Int.reduceLT, Int.reduceToNat, Nat.reduceLeDiff, UInt8.reduceOfNat, UInt8.reduceOfNatLT, and_self, Nat.reduceMul, decide_true, decide_false, Bool.not_true, Bool.not_false, implies_true]
  apply vc_run 1000 (stop := false) rfl; simp only [push_cast, reduceIte, Nat.reduceEqDiff, Nat.reduceAdd, Nat.reduceSub, Nat.reduceLT, Int.reduceNeg, Int.reduceLE, Int.reduceLT, Int.reduceToNat, Nat.reduceLeDiff, UInt8.reduceOfNat, UInt8.reduceOfNatLT, and_self, Nat.reduceMul, decide_true, decide_false, Bool.not_true, Bool.not_false, implies_true]
  have hml : (mapA ⟨m, v⟩ ((atN l p).attrs.take j)).length = j := by rw [mapA, List.length_map, List.length_take]; omega
  have hle : ((mapA ⟨m, v⟩ ((atN l p).attrs.take j)).length : Int) + (((atN l p).attrs.drop j).length : Nat) = ((atN l p).attrs.length : Nat) := by rw [hml, List.length_drop]; omega
  rw [hle]
  refine ⟨fun hlt => ?_, fun hge => ?_⟩
  · have hlt : j < (atN l p).attrs.length := Int.ofNat_lt.1 (of_decide_eq_true hlt)
    have hg : gd (mapA ⟨m, v⟩ ((atN l p).attrs.take j) ++ (atN l p).attrs.drop j) attrD ((j : Nat) : Int) = (atN l p).attrs.getD j attrD := by
      rw [gd_nat, List.getD, List.getD, List.getElem?_append_right (by omega), hml, Nat.sub_self, List.getElem?_drop, Nat.add_zero]
    have hany : ((atN l p).attrs.take (j + 1)).any (isNm m) = (((atN l p).attrs.take j).any (isNm m) || isNm m ((atN l p).attrs.getD j attrD)) := by
      rw [List.take_succ_eq_append_getElem hlt, List.any_append]; simp [List.getD, hlt]
    have hd : (atN l p).attrs.drop j = (atN l p).attrs.getD j attrD :: (atN l p).attrs.drop (j + 1) := by rw [List.drop_eq_getElem_cons hlt]; simp [List.getD, hlt]
    have hst := mapA_step ⟨m, v⟩ hlt
    rw [hg]
    refine ⟨by omega, fun hy => ⟨by omega, by constructor <;> omega, _, ?_, j + 1, ?_, ?_, by omega, rfl⟩, fun hn => ⟨by constructor <;> omega, _, ?_, j + 1, ?_, ?_, by omega, rfl⟩⟩
    · omega
    · rw [hany, show isNm m ((atN l p).attrs.getD j attrD) = true from hy, Bool.or_true]; rfl
    · rw [hst, show isNm (⟨m, v⟩ : Attr).name ((atN l p).attrs.getD j attrD) = true from hy, cond_true, hd, Int.toNat_natCast]
      congr 4
      rw [List.set_append_right _ _ (by omega), hml, Nat.sub_self, List.set_cons_zero, List.append_assoc]
      rfl
    · omega
    · rw [hany, show isNm m ((atN l p).attrs.getD j attrD) = false from hn, Bool.or_false]; rfl
    · rw [hst, show isNm (⟨m, v⟩ : Attr).name ((atN l p).attrs.getD j attrD) = false from hn, cond_false, hd, List.append_assoc]
      rfl
  · have hge : j = (atN l p).attrs.length := by have := of_decide_eq_false hge; omega
    subst hge
    rw [List.take_length, List.drop_length, List.append_nil] at *
    have hput : ∀ ys, setAs (atN l p).attrs ⟨m, v⟩ = ys → putL l p [Node.mk (atN l p).kind (atN l p).space (atN l p).name (atN l p).text ys (atN l p).kids] = setT l p ⟨m, v⟩ := fun ys e => by
      rw [putL_put p l _ hs, setT, e]; rfl
    refine ⟨fun h => ?_, fun h => ?_⟩
    · have h' : (atN l p).attrs.any (isNm m) = false := by simpa using h
      rw [show (atN l p).attrs.any (isNm (⟨m, v⟩ : Attr).name) = false from h', cond_false] at hmp
      have hmn : mapA ⟨m, v⟩ (atN l p).attrs = (atN l p).attrs := by
        unfold mapA
        rw [List.any_eq_false] at h'
        conv => rhs; rw [← List.map_id (atN l p).attrs]
        refine List.map_congr_left fun b hb => ?_
        have : isNm (⟨m, v⟩ : Attr).name b = false := by simpa using h' b hb
        rw [this]; rfl
      rw [hmn]
      rw [show ([] : List Attr) ++ [⟨m, v⟩] = [⟨m, v⟩] from rfl, hput _ hmp.symm, doneR_eq]
      exact ⟨by unfold sizeOk; simp only [List.length_nil]; omega, ⟨hz, by omega, hs⟩, by omega, rfl⟩
    · have h' : (atN l p).attrs.any (isNm m) = true := by simpa using h
      rw [show (atN l p).attrs.any (isNm (⟨m, v⟩ : Attr).name) = true from h', cond_true] at hmp
      rw [hput _ hmp.symm, doneR_eq]
      exact ⟨⟨hz, by omega, hs⟩, by omega, rfl⟩)
end Go.Ab
