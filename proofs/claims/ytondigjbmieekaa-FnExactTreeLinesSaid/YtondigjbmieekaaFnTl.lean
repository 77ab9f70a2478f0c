/- The lines of a tree, as they are told. -/
import Derived.Test.YtondigjbmieekaaFnB
import Derived.Test.YtondigjbmieekaaFnN
import Derived.Test.YtondigjbmieekaaLibRep
set_option linter.all false
set_option linter.unusedSimpArgs false
set_option linter.unusedVariables false
set_option linter.unusedSectionVars false
set_option maxRecDepth 20000
set_option maxHeartbeats 1000000
namespace Go.Ab
open Go Go.Proofs.Try
def placeB (s : Int) : Str := bif decide (s = 1) then [115, 118, 103, 47] else bif decide (s = 2) then [109, 97, 116, 104, 47] else []
theorem placeB_at {s : Int} (h : 0 ≤ s ∧ s < 3) : gd [[], [115, 118, 103, 47], [109, 97, 116, 104, 47]] [] s = placeB s := by
  have : s = 0 ∨ s = 1 ∨ s = 2 := by omega
  rcases this with rfl | rfl | rfl <;> rfl
theorem placeB_le (s : Int) : (placeB s).length ≤ 5 := by
  unfold placeB
  cases decide (s = 1) <;> cases decide (s = 2) <;> simp
def attrB (a : Attr) : Str := 32 :: (a.name ++ 61 :: quote a.value)
def attrsB (ys : List Attr) : Str := ys.flatMap attrB
theorem attrsB_take {ys : List Attr} {j : Nat} (h : j < ys.length) : attrsB (ys.take (j + 1)) = attrsB (ys.take j) ++ attrB (ys.getD j attrD) := by
  unfold attrsB
  rw [List.take_succ_eq_append_getElem h, List.flatMap_append]
  simp [List.getD, h]
theorem attrB_le (a : Attr) : (attrB a).length ≤ 4 + 3 * szAt a := by
  have := quote_le a.value
  simp only [attrB, szAt, List.length_cons, List.length_append]; omega
theorem attrsB_le (ys : List Attr) : (attrsB ys).length ≤ 4 * szL szAt ys := by
  induction ys with
  | nil => simp [attrsB]
  | cons a r ih =>
    have h := attrB_le a
    have e : attrsB (a :: r) = attrB a ++ attrsB r := by simp [attrsB]
    have e2 : szL szAt (a :: r) = 1 + szAt a + szL szAt r := by simp [szL, sumL]; omega
    rw [e, List.length_append, e2]; omega
theorem attrsB_tk (ys : List Attr) (j : Nat) : (attrsB (ys.take j)).length ≤ 4 * szL szAt ys := by
  have h1 := attrsB_le (ys.take j)
  have h2 : szL szAt (ys.take j) ≤ szL szAt ys := by
    have := sumL_take_le szAt ys j
    have e1 : szL szAt (ys.take j) = (ys.take j).length + sumL szAt (ys.take j) := rfl
    have e2 : szL szAt ys = ys.length + sumL szAt ys := rfl
    rw [e1, e2, List.length_take]; omega
  omega
def lineQ (ind : Str) (k s : Int) (m t : Str) (ys : List Attr) : Str := bif decide (k = 2) then ind ++ quote t else bif decide (k = 3) then ind ++ ([99, 111, 109, 109, 101, 110, 116, 32] ++ quote t) else ind ++ (placeB s ++ m) ++ attrsB ys
noncomputable def sp_placed : Spec := ⟨[.sc, .sc], [.rd, .rd], true, fun
  | [.int .i64 s, .str m] => some (some (0 ≤ s ∧ s < 3 ∧ m.length ≤ 1048576), .str (placeB s ++ m), [])
  | _ => none⟩
@[push_cast] theorem sp_placed_ps : sp_placed.ps = [.sc, .sc] := rfl
@[push_cast] theorem sp_placed_md : sp_placed.modes = [.rd, .rd] := rfl
@[push_cast] theorem sp_placed_pure : sp_placed.pure = true := rfl
@[push_cast] theorem sp_placed_run (s : Int) (m : Str) : sp_placed.run [.int .i64 s, .str m] = some (some (0 ≤ s ∧ s < 3 ∧ m.length ≤ 1048576), .str (placeB s ++ m), []) := rfl
noncomputable def e_placed : Env := mk [] [] [] [] none
@[push_cast] theorem e_placed_in : e_placed.inl = inlF [] := rfl
@[push_cast] theorem e_placed_fn : e_placed.fnd = fndF none := rfl
@[push_cast] theorem e_placed_gh : e_placed.gh = ghOf [] := rfl
@[push_cast] theorem e_placed_dr : e_placed.dr = drOf [] := rfl
@[push_cast] theorem e_placed_td : e_placed.td = td := rfl
@[push_cast] theorem e_placed_eqt : e_placed.eqt = eqt := rfl
@[push_cast] theorem e_placed_cal : e_placed.cal = calOf [] := rfl
theorem c_placed : CRow P0 ety0 105 sp_placed := CRow.of (E := e_placed) (mkOk (.nil)) func105 rfl rfl rfl (by
  intro args p r outs h hq
  simp only [sp_placed] at h; split at h <;> cases h
  rename_i s m
  obtain ⟨h0, h1, hm⟩ := hq _ rfl
  refine Body.intro (rs := [.tmp 4]) rfl rfl rfl ?_
  apply vc_run 1000 (stop := false) rfl; simp only [push_cast, reduceIte, Nat.reduceEqDiff, Nat.reduceAdd, Nat.reduceSub, Nat.reduceLT, Int.reduceNeg, Int.reduceLE, Int.reduceLT, Int.reduceToNat, Nat.reduceLeDiff, UInt8.reduceOfNat, UInt8.reduceOfNatLT, and_self, Nat.reduceMul, decide_true, decide_false, Bool.not_true, Bool.not_false, implies_true]
  rw [placeB_at ⟨h0, h1⟩]
  have := placeB_le s
  exact ⟨⟨h0, by omega⟩, by omega, rfl⟩)
mutual
def linN : Str → Node → List Str
  | d, .mk k s m t ys ks => lineQ d k s m t ys :: linT (d ++ [46]) ks
def linT : Str → List Node → List Str
  | _, [] => []
  | d, x :: r => linN d x ++ linT d r
end
theorem linT_append (d : Str) (l r : List Node) : linT d (l ++ r) = linT d l ++ linT d r := by
  induction l with
  | nil => simp [linT]
  | cons x l ih => rw [List.cons_append, linT, linT, ih, List.append_assoc]
theorem linN_eq (d : Str) (x : Node) : linN d x = lineQ d x.kind x.space x.name x.text x.attrs :: linT (d ++ [46]) x.kids := by cases x; rw [linN]; rfl
theorem linT_take {d : Str} {l : List Node} {j : Nat} (h : j < l.length) : linT d (l.take (j + 1)) = linT d (l.take j) ++ lineQ d (l.getD j nodeD).kind (l.getD j nodeD).space (l.getD j nodeD).name (l.getD j nodeD).text (l.getD j nodeD).attrs :: linT (d ++ [46]) (l.getD j nodeD).kids := by
  rw [List.take_succ_eq_append_getElem h, linT_append]
  have e : l.getD j nodeD = l[j] := by simp [List.getD, h]
  rw [e, linT, linT, List.append_nil, linN_eq]
mutual
theorem linN_len : ∀ (d : Str) (x : Node), (linN d x).length = cntNd x
  | d, .mk k s m t a ks => by rw [linN, List.length_cons, linT_len _ ks, cntNd]; omega
theorem linT_len : ∀ (d : Str) (l : List Node), (linT d l).length = cntNds l
  | _, [] => rfl
  | d, x :: r => by rw [linT, List.length_append, linN_len d x, linT_len d r, cntNds]
end
mutual
/-- The spaces of elements are those that have a name. -/
def s3Nd : Node → Prop
  | .mk k s _ _ _ ks => (k = 2 ∨ k = 3 ∨ (0 ≤ s ∧ s < 3)) ∧ s3Nds ks
def s3Nds : List Node → Prop
  | [] => True
  | x :: r => s3Nd x ∧ s3Nds r
end
theorem s3Nds_iff (l : List Node) : s3Nds l ↔ ∀ x ∈ l, s3Nd x := by
  induction l with
  | nil => simp [s3Nds]
  | cons x r ih => rw [s3Nds, ih]; simp
theorem s3Nd_eq (x : Node) : s3Nd x ↔ (x.kind = 2 ∨ x.kind = 3 ∨ (0 ≤ x.space ∧ x.space < 3)) ∧ s3Nds x.kids := by cases x; rw [s3Nd]; rfl
mutual
theorem good_s3 : ∀ (x : Node) (d : Int), goodNd x d = true → s3Nd x
  | .mk k s m t a ks, d, h => by
    rw [goodNd, Bool.and_eq_true, Bool.and_eq_true, Bool.and_eq_true] at h
    obtain ⟨⟨_, ho, _⟩, hk⟩ := h
    rw [s3Nd]
    refine ⟨?_, goods_s3 ks _ hk⟩
    rw [ownNd_mk, Bool.or_eq_true] at ho
    rcases ho with ho | ho
    · simp only [Bool.and_eq_true, decide_eq_true_eq] at ho
      obtain ⟨hk1, ⟨⟨_, hw⟩, _⟩, _⟩ := ho
      rw [within, Bool.and_eq_true] at hw
      have h1 := of_decide_eq_true hw.1
      have h2 := of_decide_eq_true hw.2
      exact .inr (.inr ⟨h1, by omega⟩)
    · simp only [Bool.and_eq_true, Bool.or_eq_true, decide_eq_true_eq] at ho
      rcases ho.1 with h | h
      · exact .inl h
      · exact .inr (.inl h)
theorem goods_s3 : ∀ (l : List Node) (d : Int), goodNds l d = true → s3Nds l
  | [], _, _ => trivial
  | x :: r, d, h => by
    rw [goodNds, Bool.and_eq_true] at h
    exact ⟨good_s3 x d h.1, goods_s3 r d h.2⟩
end
def dots (n : Nat) : Str := List.replicate n 46
noncomputable def sp_lin1 : Spec := ⟨[.st .node, .sl .int, .sc], [.rd, .rd, .io], false, fun
  | [.agg [.int .i64 k, .int .i64 s, .str m, .str t, .dat ⟨.attr, b⟩, .dat ⟨.node, ks⟩], .dat ⟨.int, p⟩, .pb [.own true ⟨.str, acc⟩]] => some (some ((k = 2 ∨ k = 3 ∨ (0 ≤ s ∧ s < 3)) ∧ szNd (.mk k s m t b ks) ≤ 1048576 ∧ 1 ≤ p.length ∧ p.length ≤ 1073741824 ∧ acc.length ≤ 536870912), .tup [], [.pb [.own true ⟨.str, acc ++ [lineQ (dots (p.length - 1)) k s m t b]⟩]])
  | _ => none⟩
@[push_cast] theorem sp_lin1_ps : sp_lin1.ps = [.st .node, .sl .int, .sc] := rfl
@[push_cast] theorem sp_lin1_md : sp_lin1.modes = [.rd, .rd, .io] := rfl
@[push_cast] theorem sp_lin1_pure : sp_lin1.pure = false := rfl
@[push_cast] theorem sp_lin1_run (k s : Int) (m t : Str) (b : List Attr) (ks : List Node) (p : List Int) (acc : List Str) : sp_lin1.run [.agg [.int .i64 k, .int .i64 s, .str m, .str t, .dat ⟨.attr, b⟩, .dat ⟨.node, ks⟩], .dat ⟨.int, p⟩, .pb [.own true ⟨.str, acc⟩]] = some (some ((k = 2 ∨ k = 3 ∨ (0 ≤ s ∧ s < 3)) ∧ szNd (.mk k s m t b ks) ≤ 1048576 ∧ 1 ≤ p.length ∧ p.length ≤ 1073741824 ∧ acc.length ≤ 536870912), .tup [], [.pb [.own true ⟨.str, acc ++ [lineQ (dots (p.length - 1)) k s m t b]⟩]]) := rfl
theorem rep_dots (n : Nat) : Lib.repeatL [46] n = dots n := by
  induction n with
  | zero => rfl
  | succ n ih =>
    show [46] ++ Lib.repeatL [46] n = _
    rw [ih]; rfl
theorem dots_len (n : Nat) : (dots n).length = n := List.length_replicate
noncomputable def e_lin1 : Env := mk [(103, sp_repS), (104, sp_quoted), (105, sp_placed)] [(7, [], [])] [] [] none
@[push_cast] theorem e_lin1_in : e_lin1.inl = inlF [] := rfl
@[push_cast] theorem e_lin1_fn : e_lin1.fnd = fndF none := rfl
@[push_cast] theorem e_lin1_gh : e_lin1.gh = ghOf [] := rfl
@[push_cast] theorem e_lin1_dr : e_lin1.dr = drOf [(7, [], [])] := rfl
@[push_cast] theorem e_lin1_td : e_lin1.td = td := rfl
@[push_cast] theorem e_lin1_eqt : e_lin1.eqt = eqt := rfl
@[push_cast] theorem e_lin1_cal : e_lin1.cal = calOf [(103, sp_repS), (104, sp_quoted), (105, sp_placed)] := rfl
theorem c_lin1 : CRow P0 ety0 102 sp_lin1 := CRow.of (E := e_lin1) (mkOk (.cons c_repS (.cons c_quoted (.cons c_placed (.nil))))) func102 rfl rfl rfl (by
  intro args p r outs h hq
  simp only [sp_lin1] at h; split at h <;> cases h
  rename_i k s m t b ks p acc
  obtain ⟨hs, hz, hp0, hp, ha⟩ := hq _ rfl
  rw [szNd_mk] at hz
  have e1 : ((p.length : Int) - 1).toNat = p.length - 1 := by omega
  have hql := quote_le t
  have hpl := placeB_le s
  have hdl := dots_len (p.length - 1)
  refine Body.intro (rs := []) rfl rfl rfl ?_
  apply vc_run 1000 (stop := false) rfl; simp only [push_cast, reduceIte, Nat.reduceEqDiff, Nat.reduceAdd, Nat.reduceSub, Nat.reduceLT, Int.reduceNeg, Int.reduceLE, Int.reduceLT, Int.reduceToNat, Nat.reduceLeDiff, UInt8.reduceOfNat, UInt8.reduceOfNatLT, and_self, Nat.reduceMul, decide_true, decide_false, Bool.not_true, Bool.not_false, implies_true]
  rw [e1, rep_dots]
  clear hq
  refine ⟨by constructor <;> omega, ⟨by omega, by omega, by omega⟩, fun h2 => ⟨by omega, by omega, by unfold sizeOk; omega, ?_⟩, fun h2 => ⟨fun h3 => ⟨by omega, by omega, by omega, by unfold sizeOk; omega, ?_⟩, fun h3 => ?_⟩⟩
  · rw [lineQ, h2]; rfl
  · rw [lineQ, h2, h3]; rfl
  have hs : 0 ≤ s ∧ s < 3 := by
    have h2 := of_decide_eq_false h2
    have h3 := of_decide_eq_false h3
    omega
  have hb := szL_len szAt b
  refine ⟨⟨hs.1, hs.2, by omega⟩, by omega, ?_⟩
  have eL : lineQ (dots (p.length - 1)) k s m t b = dots (p.length - 1) ++ (placeB s ++ m) ++ attrsB b := by rw [lineQ, h2, h3]; rfl
  rw [eL]
  generalize hD : dots (p.length - 1) ++ (placeB s ++ m) = D0
  have hD0 : D0.length ≤ 1080000000 := by rw [← hD, List.length_append, List.length_append]; omega
  refine Run.loop [5, 24] [2, 22, 23] [0] rfl (fun n vs bs => ∃ j : Nat, vs = [.str (D0 ++ attrsB (b.take j)), .int .i64 j] ∧ bs = [[.own true ⟨.str, acc⟩]] ∧ j ≤ b.length ∧ n = b.length - j) b.length ?_ ?_
  · simp only [push_cast, reduceIte, Nat.reduceEqDiff, Nat.reduceAdd, Nat.reduceSub, Nat.reduceLT, Int.reduceNeg, Int.reduceLE, Int.reduceLT, Int.reduceToNat, Nat.reduceLeDiff, UInt8.reduceOfNat, UInt8.reduceOfNatLT, and_self, Nat.reduceMul, decide_true, decide_false, Bool.not_true, Bool.not_false, implies_true]
    exact ⟨0, by simp [attrsB], by omega, by omega⟩
  rintro n vs bs ⟨j, rfl, rfl, hj, rfl⟩
  simp only [push_cast, reduceIte, Nat.reduceEqDiff, Nat.reduceAdd, Nat.reduceSub, Nat.reduceLT, Int.reduceNeg, Int.reduceLE, Int.reduceLT, Int.reduceToNat, Nat.reduceLeDiff, UInt8.reduceOfNat, UInt8.reduceOfNatLT, and_self, Nat.reduceMul, decide_true, decide_false, Bool.not_true, Bool.not_false, implies_true]
  apply vc_run 1000 (stop := false) rfl; simp only [push_cast, reduceIte, Nat.reduceEqDiff, Nat.reduceAdd, Nat.reduceSub, Nat.reduceLT, Int.reduceNeg, Int.reduceLE, Int.reduceLT, Int.reduceToNat, Nat.reduceLeDiff, UInt8.reduceOfNat, UInt8.reduceOfNatLT, and_self, Nat.reduceMul, decide_true, decide_false, Bool.not_true, Bool.not_false, implies_true]
  have hat := attrsB_tk b j
  refine ⟨fun hlt => ?_, fun hge => ?_⟩
  · have hlt : j < b.length := Int.ofNat_lt.1 (of_decide_eq_true hlt)
    have hst := attrsB_take hlt
    have hel := szL_at szAt attrD hlt
    have hq2 := quote_le (b.getD j attrD).value
    have hsz : szAt (b.getD j attrD) = (b.getD j attrD).name.length + (b.getD j attrD).value.length := rfl
    simp only [gd_nat]
    refine ⟨by omega, by omega, by omega, by omega, by omega, by omega, by constructor <;> omega, _, ?_, j + 1, by rw [hst]; rfl, by omega, rfl⟩
    omega
  · have hge : j = b.length := by have := of_decide_eq_false hge; omega
    subst hge
    rw [List.take_length]
    exact ⟨by unfold sizeOk; omega, rfl⟩)
noncomputable def sp_eachL (z : Nat) : Spec := ⟨[.sl .node, .sl .int, .sc], [.rd, .rd, .io], false, fun
  | [.dat ⟨.node, l⟩, .dat ⟨.int, p⟩, .fn 102 [] [.pb [.own true ⟨.str, acc⟩]]] => some (some (szNds l < z ∧ szNds l ≤ 1048576 ∧ p.length + szNds l ≤ 536870912 ∧ acc.length + szNds l ≤ 536870912 ∧ s3Nds l), .tup [], [.fn 102 [] [.pb [.own true ⟨.str, acc ++ linT (dots p.length) l⟩]]])
  | _ => none⟩
@[push_cast] theorem sp_eachL_ps (z : Nat) : (sp_eachL z).ps = [.sl .node, .sl .int, .sc] := rfl
@[push_cast] theorem sp_eachL_md (z : Nat) : (sp_eachL z).modes = [.rd, .rd, .io] := rfl
@[push_cast] theorem sp_eachL_pure (z : Nat) : (sp_eachL z).pure = false := rfl
@[push_cast] theorem sp_eachL_run (z : Nat) (l : List Node) (p : List Int) (acc : List Str) : (sp_eachL z).run [.dat ⟨.node, l⟩, .dat ⟨.int, p⟩, .fn 102 [] [.pb [.own true ⟨.str, acc⟩]]] = some (some (szNds l < z ∧ szNds l ≤ 1048576 ∧ p.length + szNds l ≤ 536870912 ∧ acc.length + szNds l ≤ 536870912 ∧ s3Nds l), .tup [], [.fn 102 [] [.pb [.own true ⟨.str, acc ++ linT (dots p.length) l⟩]]]) := rfl
noncomputable def e_eachL_ (z : Nat) : Env := mk [(135, sp_cloneI), (102, sp_lin1), (101, (sp_eachL z))] [] [] [] none
@[push_cast] theorem e_eachL__in (z : Nat) : (e_eachL_ z).inl = inlF [] := rfl
@[push_cast] theorem e_eachL__fn (z : Nat) : (e_eachL_ z).fnd = fndF none := rfl
@[push_cast] theorem e_eachL__gh (z : Nat) : (e_eachL_ z).gh = ghOf [] := rfl
@[push_cast] theorem e_eachL__dr (z : Nat) : (e_eachL_ z).dr = drOf [] := rfl
@[push_cast] theorem e_eachL__td (z : Nat) : (e_eachL_ z).td = td := rfl
@[push_cast] theorem e_eachL__eqt (z : Nat) : (e_eachL_ z).eqt = eqt := rfl
@[push_cast] theorem e_eachL__cal (z : Nat) : (e_eachL_ z).cal = calOf [(135, sp_cloneI), (102, sp_lin1), (101, (sp_eachL z))] := rfl
theorem c_eachL_ (z : Nat) (h_eachL : CRow P0 ety0 101 (sp_eachL z)) : CRow P0 ety0 101 (sp_eachL (z+1)) := CRow.of (E := (e_eachL_ z)) (mkOk (.cons c_cloneI (.cons c_lin1 (.cons h_eachL (.nil))))) func101 rfl rfl rfl (by
  intro args p r outs h hq
  simp only [sp_eachL] at h; split at h <;> cases h
  rename_i l p acc
  obtain ⟨hn, hz, hp, ha, hs⟩ := hq _ rfl
  have hl := szL_len szNd l
  rw [← szNds_eq] at hl
  refine Body.intro (rs := []) rfl rfl rfl ?_
  apply vc_run 1000 (stop := false) rfl; simp only [push_cast, reduceIte, Nat.reduceEqDiff, Nat.reduceAdd, Nat.reduceSub, Nat.reduceLT, Int.reduceNeg, Int.reduceLE, Int.reduceLT, Int.reduceToNat, Nat.reduceLeDiff, UInt8.reduceOfNat, UInt8.reduceOfNatLT, and_self, Nat.reduceMul, decide_true, decide_false, Bool.not_true, Bool.not_false, implies_true]
  refine Run.loop [11] [1, 2, 9, 10] [0] rfl (fun m vs bs => ∃ j : Nat, vs = [.int .i64 j] ∧ bs = [[.own true ⟨.str, acc ++ linT (dots p.length) (l.take j)⟩]] ∧ j ≤ l.length ∧ m = l.length - j) l.length ?_ ?_
  · simp only [push_cast, reduceIte, Nat.reduceEqDiff, Nat.reduceAdd, Nat.reduceSub, Nat.reduceLT, Int.reduceNeg, Int.reduceLE, Int.reduceLT, Int.reduceToNat, Nat.reduceLeDiff, UInt8.reduceOfNat, UInt8.reduceOfNatLT, and_self, Nat.reduceMul, decide_true, decide_false, Bool.not_true, Bool.not_false, implies_true]
    exact ⟨0, rfl, by simp [linT], by omega, by omega⟩
  rintro m vs bs ⟨j, rfl, rfl, hj, rfl⟩
  simp only [push_cast, reduceIte, Nat.reduceEqDiff, Nat.reduceAdd, Nat.reduceSub, Nat.reduceLT, Int.reduceNeg, Int.reduceLE, Int.reduceLT, Int.reduceToNat, Nat.reduceLeDiff, UInt8.reduceOfNat, UInt8.reduceOfNatLT, and_self, Nat.reduceMul, decide_true, decide_false, Bool.not_true, Bool.not_false, implies_true]
  apply vc_run 1000 (stop := false) rfl; simp only [push_cast, reduceIte, Nat.reduceEqDiff, Nat.reduceAdd, Nat.reduceSub, Nat.reduceLT, Int.reduceNeg, Int.reduceLE, Int.reduceLT, Int.reduceToNat, Nat.reduceLeDiff, UInt8.reduceOfNat, UInt8.reduceOfNatLT, and_self, Nat.reduceMul, decide_true, decide_false, Bool.not_true, Bool.not_false, implies_true]
  refine ⟨fun hlt => ?_, fun hge => ?_⟩
  · have hlt : j < l.length := Int.ofNat_lt.1 (of_decide_eq_true hlt)
    have hft := linT_take (d := dots p.length) hlt
    have hfl := linT_len (dots p.length) (l.take (j + 1))
    have hcs := cntNds_sz (l.take (j + 1))
    obtain ⟨hs1, hs2⟩ := szNds_step hlt
    have hk1 := szNds_kids (l.getD j nodeD)
    have hfj := linT_len (dots p.length) (l.take j)
    have hcj := cntNds_sz (l.take j)
    obtain ⟨hsx, hsk⟩ := (s3Nd_eq _).1 (fit_at (d := nodeD) ((s3Nds_iff l).1 hs) hlt)
    have hdd : dots (p.length + 1) = dots p.length ++ [46] := by unfold dots; rw [List.replicate_succ']
    simp only [gd_nat]
    refine ⟨by omega, by omega, by unfold sizeOk; omega, ⟨hsx, by omega, by omega, by omega⟩, ⟨kid_lt hn hlt, by omega, by omega, by omega, hsk⟩, by constructor <;> omega, _, ?_, j + 1, rfl, by rw [hft, hdd]; rfl, by omega, rfl⟩
    omega
  · have hge : j = l.length := by have := of_decide_eq_false hge; omega
    subst hge
    rw [List.take_length])
noncomputable def sp_eachLA : Spec := ⟨[.sl .node, .sl .int, .sc], [.rd, .rd, .io], false, fun
  | [.dat ⟨.node, l⟩, .dat ⟨.int, p⟩, .fn 102 [] [.pb [.own true ⟨.str, acc⟩]]] => some (some (szNds l ≤ 1048576 ∧ p.length ≤ 1048576 ∧ acc.length ≤ 1048576 ∧ s3Nds l), .tup [], [.fn 102 [] [.pb [.own true ⟨.str, acc ++ linT (dots p.length) l⟩]]])
  | _ => none⟩
@[push_cast] theorem sp_eachLA_ps : sp_eachLA.ps = [.sl .node, .sl .int, .sc] := rfl
@[push_cast] theorem sp_eachLA_md : sp_eachLA.modes = [.rd, .rd, .io] := rfl
@[push_cast] theorem sp_eachLA_pure : sp_eachLA.pure = false := rfl
@[push_cast] theorem sp_eachLA_run (l : List Node) (p : List Int) (acc : List Str) : sp_eachLA.run [.dat ⟨.node, l⟩, .dat ⟨.int, p⟩, .fn 102 [] [.pb [.own true ⟨.str, acc⟩]]] = some (some (szNds l ≤ 1048576 ∧ p.length ≤ 1048576 ∧ acc.length ≤ 1048576 ∧ s3Nds l), .tup [], [.fn 102 [] [.pb [.own true ⟨.str, acc ++ linT (dots p.length) l⟩]]]) := rfl
theorem r_eachL : ∀ z, CRow P0 ety0 101 (sp_eachL z)
  | 0 => .absurd (fun args p r outs h hq => by
      simp only [sp_eachL] at h; split at h <;> cases h
      exact absurd (hq _ rfl).1 (Nat.not_lt_zero _)) (ent_of func101 rfl rfl)
  | z + 1 => c_eachL_ z (r_eachL z)
theorem c_eachLA : CRow P0 ety0 101 sp_eachLA := .all (spn := sp_eachL) (fun _ => rfl) r_eachL (fun args p r outs h hq => by
  simp only [sp_eachLA] at h; split at h <;> cases h
  rename_i l p acc
  obtain ⟨h1, h2, h3, h4⟩ := hq _ rfl
  exact ⟨szNds l + 1, _, rfl, fun q hq' => by cases hq'; exact ⟨Nat.lt_succ_self _, h1, by omega, by omega, h4⟩⟩)
noncomputable def sp_linT0 : Spec := ⟨[.sl .node], [.rd], false, fun
  | [.dat ⟨.node, l⟩] => some (some (szL szNd l ≤ 1048576 ∧ s3Nds l), .own true ⟨.str, linT [] l⟩, [])
  | _ => none⟩
@[push_cast] theorem sp_linT0_ps : sp_linT0.ps = [.sl .node] := rfl
@[push_cast] theorem sp_linT0_md : sp_linT0.modes = [.rd] := rfl
@[push_cast] theorem sp_linT0_pure : sp_linT0.pure = false := rfl
@[push_cast] theorem sp_linT0_run (l : List Node) : sp_linT0.run [.dat ⟨.node, l⟩] = some (some (szL szNd l ≤ 1048576 ∧ s3Nds l), .own true ⟨.str, linT [] l⟩, []) := rfl
noncomputable def e_treeLines : Env := mk [(101, sp_eachLA)] [] [] [] none
@[push_cast] theorem e_treeLines_in : e_treeLines.inl = inlF [] := rfl
@[push_cast] theorem e_treeLines_fn : e_treeLines.fnd = fndF none := rfl
@[push_cast] theorem e_treeLines_gh : e_treeLines.gh = ghOf [] := rfl
@[push_cast] theorem e_treeLines_dr : e_treeLines.dr = drOf [] := rfl
@[push_cast] theorem e_treeLines_td : e_treeLines.td = td := rfl
@[push_cast] theorem e_treeLines_eqt : e_treeLines.eqt = eqt := rfl
@[push_cast] theorem e_treeLines_cal : e_treeLines.cal = calOf [(101, sp_eachLA)] := rfl
theorem c_treeLines : CRow P0 ety0 57 sp_linT0 := CRow.of (E := e_treeLines) (mkOk (.cons c_eachLA (.nil))) func57 rfl rfl rfl (by
  intro args p r outs h hq
  simp only [sp_linT0] at h; split at h <;> cases h
  rename_i l
  obtain ⟨hz, hs⟩ := hq _ rfl
  rw [← szNds_eq] at hz
  refine Body.intro (rs := [.tmp 2]) rfl rfl rfl ?_
  apply vc_run 1000 (stop := false) rfl; simp only [push_cast, reduceIte, Nat.reduceEqDiff, Nat.reduceAdd, Nat.reduceSub, Nat.reduceLT, Int.reduceNeg, Int.reduceLE, Int.reduceLT, Int.reduceToNat, Nat.reduceLeDiff, UInt8.reduceOfNat, UInt8.reduceOfNatLT, and_self, Nat.reduceMul, decide_true, decide_false, Bool.not_true, Bool.not_false, implies_true]
  exact ⟨⟨hz, hs⟩, rfl⟩)
noncomputable def sp_linS (z : Nat) : Spec := ⟨[.sl .node, .sc, .sl .str], [.rd, .rd, .tk], false, fun
  | [.dat ⟨.node, l⟩, .str d, .own true ⟨.str, acc⟩] => some (some (szNds l < z ∧ szNds l ≤ 1048576 ∧ d.length + szNds l ≤ 536870912 ∧ acc.length + szNds l ≤ 536870912 ∧ s3Nds l), .own true ⟨.str, acc ++ linT d l⟩, [])
  | _ => none⟩
@[push_cast] theorem sp_linS_ps (z : Nat) : (sp_linS z).ps = [.sl .node, .sc, .sl .str] := rfl
@[push_cast] theorem sp_linS_md (z : Nat) : (sp_linS z).modes = [.rd, .rd, .tk] := rfl
@[push_cast] theorem sp_linS_pure (z : Nat) : (sp_linS z).pure = false := rfl
@[push_cast] theorem sp_linS_run (z : Nat) (l : List Node) (d : Str) (acc : List Str) : (sp_linS z).run [.dat ⟨.node, l⟩, .str d, .own true ⟨.str, acc⟩] = some (some (szNds l < z ∧ szNds l ≤ 1048576 ∧ d.length + szNds l ≤ 536870912 ∧ acc.length + szNds l ≤ 536870912 ∧ s3Nds l), .own true ⟨.str, acc ++ linT d l⟩, []) := rfl
noncomputable def e_l12Lines_ (z : Nat) : Env := mk [(99, sp_quoted), (55, (sp_linS z))] [(6, [1], [[1], [], [0], [0], [], [], [], [0], [0]]), (10, [], [])] [] [] none
@[push_cast] theorem e_l12Lines__in (z : Nat) : (e_l12Lines_ z).inl = inlF [] := rfl
@[push_cast] theorem e_l12Lines__fn (z : Nat) : (e_l12Lines_ z).fnd = fndF none := rfl
@[push_cast] theorem e_l12Lines__gh (z : Nat) : (e_l12Lines_ z).gh = ghOf [] := rfl
@[push_cast] theorem e_l12Lines__dr (z : Nat) : (e_l12Lines_ z).dr = drOf [(6, [1], [[1], [], [0], [0], [], [], [], [0], [0]]), (10, [], [])] := rfl
@[push_cast] theorem e_l12Lines__td (z : Nat) : (e_l12Lines_ z).td = td := rfl
@[push_cast] theorem e_l12Lines__eqt (z : Nat) : (e_l12Lines_ z).eqt = eqt := rfl
@[push_cast] theorem e_l12Lines__cal (z : Nat) : (e_l12Lines_ z).cal = calOf [(99, sp_quoted), (55, (sp_linS z))] := rfl
theorem c_l12Lines_ (z : Nat) (h_linS : CRow P0 ety0 55 (sp_linS z)) : CRow P0 ety0 55 (sp_linS (z+1)) := CRow.of (E := (e_l12Lines_ z)) (mkOk (.cons c_l12Quote (.cons h_linS (.nil)))) func55 rfl rfl rfl (by
  intro args p r outs h hq
  simp only [sp_linS] at h; split at h <;> cases h
  rename_i l d acc
  obtain ⟨hn, hz, hp, ha, hs⟩ := hq _ rfl
  have hl := szL_len szNd l
  rw [← szNds_eq] at hl
  refine Body.intro (rs := [.tmp 6]) rfl rfl rfl ?_
  apply vc_run 1000 (stop := false) rfl; simp only [push_cast, reduceIte, Nat.reduceEqDiff, Nat.reduceAdd, Nat.reduceSub, Nat.reduceLT, Int.reduceNeg, Int.reduceLE, Int.reduceLT, Int.reduceToNat, Nat.reduceLeDiff, UInt8.reduceOfNat, UInt8.reduceOfNatLT, and_self, Nat.reduceMul, decide_true, decide_false, Bool.not_true, Bool.not_false, implies_true]
  refine Run.loop [2, 7] [0, 1] [] rfl (fun m vs bs => ∃ j : Nat, vs = [.own true ⟨.str, acc ++ linT d (l.take j)⟩, .int .i64 j] ∧ bs = [] ∧ j ≤ l.length ∧ m = l.length - j) l.length ?_ ?_
  · simp only [push_cast, reduceIte, Nat.reduceEqDiff, Nat.reduceAdd, Nat.reduceSub, Nat.reduceLT, Int.reduceNeg, Int.reduceLE, Int.reduceLT, Int.reduceToNat, Nat.reduceLeDiff, UInt8.reduceOfNat, UInt8.reduceOfNatLT, and_self, Nat.reduceMul, decide_true, decide_false, Bool.not_true, Bool.not_false, implies_true]
    exact ⟨0, by simp [linT], by omega, by omega⟩
  rintro m vs bs ⟨j, rfl, rfl, hj, rfl⟩
  simp only [push_cast, reduceIte, Nat.reduceEqDiff, Nat.reduceAdd, Nat.reduceSub, Nat.reduceLT, Int.reduceNeg, Int.reduceLE, Int.reduceLT, Int.reduceToNat, Nat.reduceLeDiff, UInt8.reduceOfNat, UInt8.reduceOfNatLT, and_self, Nat.reduceMul, decide_true, decide_false, Bool.not_true, Bool.not_false, implies_true]
  apply vc_run 1000 (stop := false) rfl; simp only [push_cast, reduceIte, Nat.reduceEqDiff, Nat.reduceAdd, Nat.reduceSub, Nat.reduceLT, Int.reduceNeg, Int.reduceLE, Int.reduceLT, Int.reduceToNat, Nat.reduceLeDiff, UInt8.reduceOfNat, UInt8.reduceOfNatLT, and_self, Nat.reduceMul, decide_true, decide_false, Bool.not_true, Bool.not_false, implies_true]
  refine ⟨fun hlt => ?_, fun hge => ?_⟩
  · have hlt : j < l.length := Int.ofNat_lt.1 (of_decide_eq_true hlt)
    have hft := linT_take (d := d) hlt
    have hfl := linT_len d (l.take (j + 1))
    have hcs := cntNds_sz (l.take (j + 1))
    obtain ⟨hs1, hs2⟩ := szNds_step hlt
    have hk1 := szNds_kids (l.getD j nodeD)
    have hfj := linT_len d (l.take j)
    have hcj := cntNds_sz (l.take j)
    obtain ⟨hsx, hsk⟩ := (s3Nd_eq _).1 (fit_at (d := nodeD) ((s3Nds_iff l).1 hs) hlt)
    have hkl := kid_lt hn hlt
    simp only [gd_nat]
    have hkz := szNd_eq (l.getD j nodeD)
    generalize l.getD j nodeD = x at *
    have hxt := quote_le x.text
    have hpl := placeB_le x.space
    have hfin : ∀ w, w = lineQ d x.kind x.space x.name x.text x.attrs → sizeOk (acc.length + (linT d (l.take j)).length + 1) ∧ d.length ≤ 9223372036854775806 ∧ (szNds x.kids < z ∧ szNds x.kids ≤ 1048576 ∧ d.length + 1 + szNds x.kids ≤ 536870912 ∧ acc.length + ((linT d (l.take j)).length + 1) + szNds x.kids ≤ 536870912 ∧ s3Nds x.kids) ∧
        i64ok ((j : Int) + 1) ∧ ∃ j_1, j_1 < l.length - j ∧ ∃ j_2 : Nat, [AV.own true ⟨.str, acc ++ (linT d (l.take j) ++ w :: linT (d ++ [46]) x.kids)⟩, .int .i64 ((j : Int) + 1)] = [AV.own true ⟨.str, acc ++ linT d (l.take j_2)⟩, .int .i64 (j_2 : Nat)] ∧ j_2 ≤ l.length ∧ j_1 = l.length - j_2 := fun w e => by
      subst e
      refine ⟨by unfold sizeOk; omega, by omega, ⟨hkl, by omega, by omega, by omega, hsk⟩, by constructor <;> omega, _, ?_, j + 1, by rw [hft]; rfl, by omega, rfl⟩
      omega
    refine ⟨by omega, fun h2 => ⟨by omega, by omega, hfin _ ?_⟩, fun h2 => ⟨fun h3 => ⟨by omega, by omega, by omega, hfin _ ?_⟩, fun h3 => ?_⟩⟩
    · rw [lineQ, h2]; rfl
    · rw [lineQ, h2, h3]; rfl
    have hsp : 0 ≤ x.space ∧ x.space < 3 := by
      have h2 := of_decide_eq_false h2
      have h3 := of_decide_eq_false h3
      omega
    rw [placeB_at hsp]
    have eL : lineQ d x.kind x.space x.name x.text x.attrs = d ++ (placeB x.space ++ x.name) ++ attrsB x.attrs := by rw [lineQ, h2, h3]; rfl
    have hb := szL_len szAt x.attrs
    refine ⟨⟨hsp.1, by omega⟩, by omega, by omega, ?_⟩
    generalize hD : d ++ (placeB x.space ++ x.name) = D0 at eL
    have hD0 : D0.length ≤ 1080000000 := by rw [← hD, List.length_append, List.length_append]; omega
    refine Run.loop [9, 10] [0, 1, 2, 7, 8] [2, 1000001] rfl (fun n vs bs => ∃ i : Nat, vs = [.str (D0 ++ attrsB (x.attrs.take i)), .int .i64 i] ∧ bs = [[.int .i64 x.kind, .int .i64 x.space, .str x.name, .str x.text, .dat ⟨.attr, x.attrs⟩, .dat ⟨.node, x.kids⟩], [.own true ⟨.str, acc ++ linT d (l.take j)⟩]] ∧ i ≤ x.attrs.length ∧ n = x.attrs.length - i) x.attrs.length ?_ ?_
    · simp only [push_cast, reduceIte, Nat.reduceEqDiff, Nat.reduceAdd, Nat.reduceSub, Nat.reduceLT, Int.reduceNeg, Int.reduceLE, Int.reduceLT, Int.reduceToNat, Nat.reduceLeDiff, UInt8.reduceOfNat, UInt8.reduceOfNatLT, and_self, Nat.reduceMul, decide_true, decide_false, Bool.not_true, Bool.not_false, implies_true]
      exact ⟨0, by simp [attrsB], by omega, by omega⟩
    rintro n vs bs ⟨i, rfl, rfl, hi, rfl⟩
    simp only [push_cast, reduceIte, Nat.reduceEqDiff, Nat.reduceAdd, Nat.reduceSub, Nat.reduceLT, Int.reduceNeg, Int.reduceLE, Int.reduceLT, Int.reduceToNat, Nat.reduceLeDiff, UInt8.reduceOfNat, UInt8.reduceOfNatLT, and_self, Nat.reduceMul, decide_true, decide_false, Bool.not_true, Bool.not_false, implies_true]
    apply vc_run 1000 (stop := false) rfl; simp only [push_cast, reduceIte, Nat.reduceEqDiff, Nat.reduceAdd, Nat.reduceSub, Nat.reduceLT, Int.reduceNeg, Int.reduceLE, Int.reduceLT, Int.reduceToNat, Nat.reduceLeDiff, UInt8.reduceOfNat, UInt8.reduceOfNatLT, and_self, Nat.reduceMul, decide_true, decide_false, Bool.not_true, Bool.not_false, implies_true]
    have hat := attrsB_tk x.attrs i
    refine ⟨fun hlt2 => ?_, fun hge2 => ?_⟩
    · have hlt2 : i < x.attrs.length := Int.ofNat_lt.1 (of_decide_eq_true hlt2)
      have hst := attrsB_take hlt2
      have hel := szL_at szAt attrD hlt2
      have hq2 := quote_le (x.attrs.getD i attrD).value
      have hsz : szAt (x.attrs.getD i attrD) = (x.attrs.getD i attrD).name.length + (x.attrs.getD i attrD).value.length := rfl
      simp only [gd_nat]
      refine ⟨by omega, by omega, by omega, by omega, by omega, by omega, by omega, by constructor <;> omega, _, ?_, i + 1, by rw [hst]; rfl, by omega, rfl⟩
      omega
    · have hge2 : i = x.attrs.length := by have := of_decide_eq_false hge2; omega
      subst hge2
      rw [List.take_length]
      refine hfin _ eL.symm
  · have hge : j = l.length := by have := of_decide_eq_false hge; omega
    subst hge
    rw [List.take_length])
noncomputable def sp_linA : Spec := ⟨[.sl .node, .sc, .sl .str], [.rd, .rd, .tk], false, fun
  | [.dat ⟨.node, l⟩, .str d, .own true ⟨.str, acc⟩] => some (some (szL szNd l ≤ 1048576 ∧ d.length ≤ 1048576 ∧ acc.length ≤ 1048576 ∧ s3Nds l), .own true ⟨.str, acc ++ linT d l⟩, [])
  | _ => none⟩
@[push_cast] theorem sp_linA_ps : sp_linA.ps = [.sl .node, .sc, .sl .str] := rfl
@[push_cast] theorem sp_linA_md : sp_linA.modes = [.rd, .rd, .tk] := rfl
@[push_cast] theorem sp_linA_pure : sp_linA.pure = false := rfl
@[push_cast] theorem sp_linA_run (l : List Node) (d : Str) (acc : List Str) : sp_linA.run [.dat ⟨.node, l⟩, .str d, .own true ⟨.str, acc⟩] = some (some (szL szNd l ≤ 1048576 ∧ d.length ≤ 1048576 ∧ acc.length ≤ 1048576 ∧ s3Nds l), .own true ⟨.str, acc ++ linT d l⟩, []) := rfl
theorem r_linS : ∀ z, CRow P0 ety0 55 (sp_linS z)
  | 0 => .absurd (fun args p r outs h hq => by
      simp only [sp_linS] at h; split at h <;> cases h
      exact absurd (hq _ rfl).1 (Nat.not_lt_zero _)) (ent_of func55 rfl rfl)
  | z + 1 => c_l12Lines_ z (r_linS z)
theorem c_l12Lines : CRow P0 ety0 55 sp_linA := .all (spn := sp_linS) (fun _ => rfl) r_linS (fun args p r outs h hq => by
  simp only [sp_linA] at h; split at h <;> cases h
  rename_i l d acc
  obtain ⟨h1, h2, h3, h4⟩ := hq _ rfl
  rw [← szNds_eq] at h1
  exact ⟨szNds l + 1, _, rfl, fun q hq' => by cases hq'; exact ⟨Nat.lt_succ_self _, h1, by omega, by omega, h4⟩⟩)
end Go.Ab
