/- Edits: an attribute is set. -/
import Derived.Test.YtondigjbmieekaaFnAk
import Derived.Test.YtondigjbmieekaaFnCo
import Derived.Test.YtondigjbmieekaaFnFi
set_option linter.all false
set_option linter.unusedSimpArgs false
set_option linter.unusedVariables false
set_option linter.unusedSectionVars false
set_option maxRecDepth 20000
set_option maxHeartbeats 1000000
namespace Go.Ab
open Go Go.Proofs.Try
def askE (l : List Node) (p : List Int) : Int := bif decide (4096 < p.length) then 2 else askT l
theorem len_4096p (p : List Int) : decide ((4096 : Int) < (p.length : Int)) = decide (4096 < p.length) := decide_eq_decide.2 (by omega)
noncomputable def sp_askE : Spec := ⟨[.sl .node, .sl .int], [.rd, .rd], true, fun
  | [.dat ⟨.node, l⟩, .dat ⟨.int, p⟩] => some (some (szL szNd l ≤ 1048576), .int .i64 (askE l p), [])
  | _ => none⟩
@[push_cast] theorem sp_askE_ps : sp_askE.ps = [.sl .node, .sl .int] := rfl
@[push_cast] theorem sp_askE_md : sp_askE.modes = [.rd, .rd] := rfl
@[push_cast] theorem sp_askE_pure : sp_askE.pure = true := rfl
@[push_cast] theorem sp_askE_run (l : List Node) (p : List Int) : sp_askE.run [.dat ⟨.node, l⟩, .dat ⟨.int, p⟩] = some (some (szL szNd l ≤ 1048576), .int .i64 (askE l p), []) := rfl
noncomputable def e_faultE : Env := mk [(56, sp_askT)] [] [] [] none
@[push_cast] theorem e_faultE_in : e_faultE.inl = inlF [] := rfl
@[push_cast] theorem e_faultE_fn : e_faultE.fnd = fndF none := rfl
@[push_cast] theorem e_faultE_gh : e_faultE.gh = ghOf [] := rfl
@[push_cast] theorem e_faultE_dr : e_faultE.dr = drOf [] := rfl
@[push_cast] theorem e_faultE_td : e_faultE.td = td := rfl
@[push_cast] theorem e_faultE_eqt : e_faultE.eqt = eqt := rfl
@[push_cast] theorem e_faultE_cal : e_faultE.cal = calOf [(56, sp_askT)] := rfl
theorem c_faultE : CRow P0 ety0 65 sp_askE := CRow.of (E := e_faultE) (mkOk (.cons c_fault (.nil))) func65 rfl rfl rfl (by
  intro args p r outs h hq
  simp only [sp_askE] at h; split at h <;> cases h
  rename_i l p
  have hz := hq _ rfl
  refine Body.intro (rs := [.tmp 4]) rfl rfl rfl ?_
  apply vc_run 1000 (stop := false) rfl; simp only [push_cast, reduceIte, Nat.reduceEqDiff, Nat.reduceAdd, Nat.reduceSub, Nat.reduceLT, Int.reduceNeg, Int.reduceLE, Int.reduceLT, Int.reduceToNat, Nat.reduceLeDiff, UInt8.reduceOfNat, UInt8.reduceOfNatLT, and_self, Nat.reduceMul, decide_true, decide_false, Bool.not_true, Bool.not_false, implies_true]
  rw [len_4096p]
  refine ⟨fun h => ?_, fun h => ⟨hz, ?_⟩⟩
  · rw [askE, h]; rfl
  · rw [askE, h]; rfl)
def doneC (l : List Node) : Int := bif treeOK l then 0 else 7
def doneR (l : List Node) : List Node := bif treeOK l then l else []
noncomputable def sp_done : Spec := ⟨[.sl .node], [.tk], false, fun
  | [.own true ⟨.node, l⟩] => some (some (szL szNd l ≤ 1048576), .tup [.own true ⟨.node, doneR l⟩, .int .i64 (doneC l)], [])
  | _ => none⟩
@[push_cast] theorem sp_done_ps : sp_done.ps = [.sl .node] := rfl
@[push_cast] theorem sp_done_md : sp_done.modes = [.tk] := rfl
@[push_cast] theorem sp_done_pure : sp_done.pure = false := rfl
@[push_cast] theorem sp_done_run (l : List Node) : sp_done.run [.own true ⟨.node, l⟩] = some (some (szL szNd l ≤ 1048576), .tup [.own true ⟨.node, doneR l⟩, .int .i64 (doneC l)], []) := rfl
noncomputable def e_edited : Env := mk [(100, sp_treeOK)] [] [(2000000, [.nil .node 2])] [] none
@[push_cast] theorem e_edited_in : e_edited.inl = inlF [] := rfl
@[push_cast] theorem e_edited_fn : e_edited.fnd = fndF none := rfl
@[push_cast] theorem e_edited_gh : e_edited.gh = ghOf [(2000000, [.nil .node 2])] := rfl
@[push_cast] theorem e_edited_dr : e_edited.dr = drOf [] := rfl
@[push_cast] theorem e_edited_td : e_edited.td = td := rfl
@[push_cast] theorem e_edited_eqt : e_edited.eqt = eqt := rfl
@[push_cast] theorem e_edited_cal : e_edited.cal = calOf [(100, sp_treeOK)] := rfl
theorem c_edited : CRow P0 ety0 108 sp_done := CRow.of (E := e_edited) (mkOk (.cons c_treeOK (.nil))) func108 rfl rfl rfl (by
  intro args p r outs h hq
  simp only [sp_done] at h; split at h <;> cases h
  rename_i l
  have hz := hq _ rfl
  refine Body.intro (rs := [.tmp 2, .tmp 3]) rfl rfl rfl ?_
  apply vc_run 1000 (stop := false) rfl; simp only [push_cast, reduceIte, Nat.reduceEqDiff, Nat.reduceAdd, Nat.reduceSub, Nat.reduceLT, Int.reduceNeg, Int.reduceLE, Int.reduceLT, Int.reduceToNat, Nat.reduceLeDiff, UInt8.reduceOfNat, UInt8.reduceOfNatLT, and_self, Nat.reduceMul, decide_true, decide_false, Bool.not_true, Bool.not_false, implies_true]
  refine ⟨hz, fun h => ?_, fun h => ?_⟩
  · rw [doneR, doneC, show treeOK l = false by simpa using h]; rfl
  · rw [doneR, doneC, show treeOK l = true by simpa using h]; rfl)
def isNm (m : Str) (a : Attr) : Bool := decide (a.name = m)
noncomputable def sp_attrAt1 : Spec := ⟨[.st .attr, .sc], [.rd, .rd], true, fun
  | [.agg [.str a, .str b], .rbp [.str m] 0] => some (none, .bool (isNm m ⟨a, b⟩), [])
  | _ => none⟩
@[push_cast] theorem sp_attrAt1_ps : sp_attrAt1.ps = [.st .attr, .sc] := rfl
@[push_cast] theorem sp_attrAt1_md : sp_attrAt1.modes = [.rd, .rd] := rfl
@[push_cast] theorem sp_attrAt1_pure : sp_attrAt1.pure = true := rfl
@[push_cast] theorem sp_attrAt1_run (a b m : Str) : sp_attrAt1.run [.agg [.str a, .str b], .rbp [.str m] 0] = some (none, .bool (isNm m ⟨a, b⟩), []) := rfl
noncomputable def e_attrAt1 : Env := mk [] [] [] [] none
@[push_cast] theorem e_attrAt1_in : e_attrAt1.inl = inlF [] := rfl
@[push_cast] theorem e_attrAt1_fn : e_attrAt1.fnd = fndF none := rfl
@[push_cast] theorem e_attrAt1_gh : e_attrAt1.gh = ghOf [] := rfl
@[push_cast] theorem e_attrAt1_dr : e_attrAt1.dr = drOf [] := rfl
@[push_cast] theorem e_attrAt1_td : e_attrAt1.td = td := rfl
@[push_cast] theorem e_attrAt1_eqt : e_attrAt1.eqt = eqt := rfl
@[push_cast] theorem e_attrAt1_cal : e_attrAt1.cal = calOf [] := rfl
theorem c_attrAt1 : CRow P0 ety0 114 sp_attrAt1 := CRow.of (E := e_attrAt1) (mkOk (.nil)) func114 rfl rfl rfl (by
  intro args p r outs h hq
  simp only [sp_attrAt1] at h; split at h <;> cases h
  refine Body.intro (rs := [.tmp 3]) rfl rfl rfl ?_
  apply vc_run 1000 (stop := false) rfl; simp only [push_cast, reduceIte, Nat.reduceEqDiff, Nat.reduceAdd, Nat.reduceSub, Nat.reduceLT, Int.reduceNeg, Int.reduceLE, Int.reduceLT, Int.reduceToNat, Nat.reduceLeDiff, UInt8.reduceOfNat, UInt8.reduceOfNatLT, and_self, Nat.reduceMul, decide_true, decide_false, Bool.not_true, Bool.not_false, implies_true]
  rfl)
noncomputable def sp_idxAttrB : Spec := ⟨[.sl .attr, .sc], [.rd, .rd], true, fun
  | [.dat ⟨.attr, l⟩, .fn 114 [] [.rbp [.str m] 0]] => some (some (l.length ≤ 1073741824), .int .i64 (idx (l.findIdx? (isNm m))), [])
  | _ => none⟩
@[push_cast] theorem sp_idxAttrB_ps : sp_idxAttrB.ps = [.sl .attr, .sc] := rfl
@[push_cast] theorem sp_idxAttrB_md : sp_idxAttrB.modes = [.rd, .rd] := rfl
@[push_cast] theorem sp_idxAttrB_pure : sp_idxAttrB.pure = true := rfl
@[push_cast] theorem sp_idxAttrB_run (l : List Attr) (m : Str) : sp_idxAttrB.run [.dat ⟨.attr, l⟩, .fn 114 [] [.rbp [.str m] 0]] = some (some (l.length ≤ 1073741824), .int .i64 (idx (l.findIdx? (isNm m))), []) := rfl
noncomputable def e_idxAttrB : Env := mk [(114, sp_attrAt1)] [] [] [] none
@[push_cast] theorem e_idxAttrB_in : e_idxAttrB.inl = inlF [] := rfl
@[push_cast] theorem e_idxAttrB_fn : e_idxAttrB.fnd = fndF none := rfl
@[push_cast] theorem e_idxAttrB_gh : e_idxAttrB.gh = ghOf [] := rfl
@[push_cast] theorem e_idxAttrB_dr : e_idxAttrB.dr = drOf [] := rfl
@[push_cast] theorem e_idxAttrB_td : e_idxAttrB.td = td := rfl
@[push_cast] theorem e_idxAttrB_eqt : e_idxAttrB.eqt = eqt := rfl
@[push_cast] theorem e_idxAttrB_cal : e_idxAttrB.cal = calOf [(114, sp_attrAt1)] := rfl
theorem c_idxAttrB : CRow P0 ety0 113 sp_idxAttrB := CRow.of (E := e_idxAttrB) (mkOk (.cons c_attrAt1 (.nil))) func113 rfl rfl rfl (by
  intro args p r outs h hq
  simp only [sp_idxAttrB] at h; split at h <;> cases h
  rename_i l m
  have hq0 := hq _ rfl
  have hl : l.length ≤ 1073741824 := by first | exact hq0 | exact hq0.1
  refine Body.intro (rs := [.tmp 4]) rfl rfl rfl ?_
  apply vc_run 1000 (stop := false) rfl; simp only [push_cast, reduceIte, Nat.reduceEqDiff, Nat.reduceAdd, Nat.reduceSub, Nat.reduceLT, Int.reduceNeg, Int.reduceLE, Int.reduceLT, Int.reduceToNat, Nat.reduceLeDiff, UInt8.reduceOfNat, UInt8.reduceOfNatLT, and_self, Nat.reduceMul, decide_true, decide_false, Bool.not_true, Bool.not_false, implies_true]
  refine Run.loop [8] [0, 1, 6, 7] [] rfl (fun n vs bs => ∃ k : Nat, vs = [.int .i64 k] ∧ bs = [] ∧ k ≤ l.length ∧ (∀ j < k, (isNm m) (l.getD j attrD) = false) ∧ n = l.length - k) l.length ?_ ?_
  · simp only [push_cast, reduceIte, Nat.reduceEqDiff, Nat.reduceAdd, Nat.reduceSub, Nat.reduceLT, Int.reduceNeg, Int.reduceLE, Int.reduceLT, Int.reduceToNat, Nat.reduceLeDiff, UInt8.reduceOfNat, UInt8.reduceOfNatLT, and_self, Nat.reduceMul, decide_true, decide_false, Bool.not_true, Bool.not_false, implies_true]
    exact ⟨0, rfl, by omega, by simp, by omega⟩
  rintro n vs bs ⟨k, rfl, rfl, hk, hb, rfl⟩
  simp only [push_cast, reduceIte, Nat.reduceEqDiff, Nat.reduceAdd, Nat.reduceSub, Nat.reduceLT, Int.reduceNeg, Int.reduceLE, Int.reduceLT, Int.reduceToNat, Nat.reduceLeDiff, UInt8.reduceOfNat, UInt8.reduceOfNatLT, and_self, Nat.reduceMul, decide_true, decide_false, Bool.not_true, Bool.not_false, implies_true]
  apply vc_run 1000 (stop := false) rfl; simp only [push_cast, reduceIte, Nat.reduceEqDiff, Nat.reduceAdd, Nat.reduceSub, Nat.reduceLT, Int.reduceNeg, Int.reduceLE, Int.reduceLT, Int.reduceToNat, Nat.reduceLeDiff, UInt8.reduceOfNat, UInt8.reduceOfNatLT, and_self, Nat.reduceMul, decide_true, decide_false, Bool.not_true, Bool.not_false, implies_true]
  refine ⟨fun hlt => ?_, fun hge => ?_⟩
  · have hlt : k < l.length := by simpa using hlt
    simp only [gd_nat]
    refine ⟨by omega, fun hy => ?_, fun hn => ⟨by constructor <;> omega, _, by omega, k + 1, rfl, by omega, below_step hb hn, rfl⟩⟩
    rw [findIdx_at (p := isNm m) hlt hb hy]; rfl
  · have hge : k = l.length := by simp at hge; omega
    subst hge
    rw [findIdx_none (p := isNm m) hb]; rfl)
noncomputable def sp_attrAt : Spec := ⟨[.st .node, .sc], [.rd, .rd], true, fun
  | [.agg [.int .i64 k, .int .i64 s, .str m, .str t, .dat ⟨.attr, a⟩, .dat ⟨.node, ks⟩], .str n] => some (some (a.length ≤ 1073741824), .int .i64 (idx (a.findIdx? (isNm n))), [])
  | _ => none⟩
@[push_cast] theorem sp_attrAt_ps : sp_attrAt.ps = [.st .node, .sc] := rfl
@[push_cast] theorem sp_attrAt_md : sp_attrAt.modes = [.rd, .rd] := rfl
@[push_cast] theorem sp_attrAt_pure : sp_attrAt.pure = true := rfl
@[push_cast] theorem sp_attrAt_run (k s : Int) (m t : Str) (a : List Attr) (ks : List Node) (n : Str) : sp_attrAt.run [.agg [.int .i64 k, .int .i64 s, .str m, .str t, .dat ⟨.attr, a⟩, .dat ⟨.node, ks⟩], .str n] = some (some (a.length ≤ 1073741824), .int .i64 (idx (a.findIdx? (isNm n))), []) := rfl
noncomputable def e_attrAt : Env := mk [(113, sp_idxAttrB)] [] [] [] none
@[push_cast] theorem e_attrAt_in : e_attrAt.inl = inlF [] := rfl
@[push_cast] theorem e_attrAt_fn : e_attrAt.fnd = fndF none := rfl
@[push_cast] theorem e_attrAt_gh : e_attrAt.gh = ghOf [] := rfl
@[push_cast] theorem e_attrAt_dr : e_attrAt.dr = drOf [] := rfl
@[push_cast] theorem e_attrAt_td : e_attrAt.td = td := rfl
@[push_cast] theorem e_attrAt_eqt : e_attrAt.eqt = eqt := rfl
@[push_cast] theorem e_attrAt_cal : e_attrAt.cal = calOf [(113, sp_idxAttrB)] := rfl
theorem c_attrAt : CRow P0 ety0 72 sp_attrAt := CRow.of (E := e_attrAt) (mkOk (.cons c_idxAttrB (.nil))) func72 rfl rfl rfl (by
  intro args p r outs h hq
  simp only [sp_attrAt] at h; split at h <;> cases h
  rename_i k s m t a ks n
  have hz := hq _ rfl
  refine Body.intro (rs := [.tmp 4]) rfl rfl rfl ?_
  apply vc_run 1000 (stop := false) rfl; simp only [push_cast, reduceIte, Nat.reduceEqDiff, Nat.reduceAdd, Nat.reduceSub, Nat.reduceLT, Int.reduceNeg, Int.reduceLE, Int.reduceLT, Int.reduceToNat, Nat.reduceLeDiff, UInt8.reduceOfNat, UInt8.reduceOfNatLT, and_self, Nat.reduceMul, decide_true, decide_false, Bool.not_true, Bool.not_false, implies_true]
  exact hz)
def withAs (x : Node) (ys : List Attr) : Node := .mk x.kind x.space x.name x.text ys x.kids
def setAs (ys : List Attr) (a : Attr) : List Attr := match ys.findIdx? (isNm a.name) with
  | some i => ys.set i a
  | none => ys ++ [a]
def elC (l : List Node) (p : List Int) : Int := bif (atP l p).isNone then 16 else bif !decide ((atN l p).kind = 1) then 9 else 0
def setT (l : List Node) (p : List Int) (a : Attr) : List Node := putP l p (withAs (atN l p) (setAs (atN l p).attrs a))
def stC (l : List Node) (p : List Int) (a : Attr) : Int := bif !attrOK a then 1 else bif !decide (elC l p = 0) then elC l p else doneC (setT l p a)
def stR (l : List Node) (p : List Int) (a : Attr) : List Node := bif decide (stC l p a = 0) then setT l p a else []
theorem doneR_eq (l : List Node) : doneR l = bif decide (doneC l = 0) then l else [] := by
  unfold doneR doneC
  cases treeOK l <;> rfl
theorem szL_set {α : Type} (f : α → Nat) (d : α) : ∀ {l : List α} {i : Nat} (x : α), i < l.length → szL f (l.set i x) + f (l.getD i d) = szL f l + f x
  | y :: l, 0, x, _ => by simp [szL, sumL]; omega
  | y :: l, i + 1, x, h => by
    have := szL_set f d (l := l) (i := i) x (by simpa using h)
    simp only [szL, sumL, List.set_cons_succ, List.length_cons, List.map_cons, List.sum_cons, List.getD_cons_succ] at this ⊢
    omega
theorem szL_get {α : Type} (f : α → Nat) (d : α) {l : List α} {i : Nat} (h : i < l.length) : f (l.getD i d) ≤ szL f l := by
  have := szL_set f d (l.getD i d) h
  have e : l.set i (l.getD i d) = l := by
    apply List.ext_getElem?
    intro k
    rw [List.getElem?_set]
    split
    · rename_i hk; subst hk; simp [List.getD, h]
    · rfl
  have h2 := szL_at f d h
  omega
theorem setK_sz (y : Node) (ks : List Node) : szNd (setK y ks) + szL szNd y.kids = szNd y + szL szNd ks := by
  cases y
  simp only [setK, szNd_mk, Node.kids]
  omega
theorem putP_sz : ∀ (p : List Int) (l : List Node) (x : Node), szL szNd (putP l p x) ≤ szL szNd l + szNd x
  | [], l, x => by simp [putP]
  | i :: q, l, x => by
    by_cases hi : 0 ≤ i ∧ i.toNat < l.length
    · match q with
      | [] =>
        rw [putP_one hi]
        have := szL_set szNd nodeD x hi.2
        omega
      | j :: q =>
        rw [putP_two hi]
        have h1 := szL_set szNd nodeD (setK (l.getD i.toNat nodeD) (putP (l.getD i.toNat nodeD).kids (j :: q) x)) hi.2
        have h2 := setK_sz (l.getD i.toNat nodeD) (putP (l.getD i.toNat nodeD).kids (j :: q) x)
        have h3 := putP_sz (j :: q) (l.getD i.toNat nodeD).kids x
        have e : (Node.mk 0 0 [] [] [] [] : Node) = nodeD := rfl
        rw [e]
        omega
    · rw [putP_out hi]; omega
theorem ownNd_sz {x : Node} (h : ownNd x = true) : x.name.length ≤ 12 ∧ x.text.length ≤ 120 ∧ szL szAt x.attrs ≤ 318 := by
  have tag : ∀ {t : Str}, tagOK t = true → t.length ≤ 12 := fun {t} ht => by
    rw [tagOK, Bool.and_eq_true, within, Bool.and_eq_true] at ht
    have := of_decide_eq_true ht.1.2
    omega
  rw [ownNd, Bool.or_eq_true] at h
  rcases h with h | h
  · simp only [Bool.and_eq_true, decide_eq_true_eq] at h
    obtain ⟨_, ⟨⟨ht, _⟩, ha⟩, hx⟩ := h
    refine ⟨tag ht, by rw [hx]; exact Nat.zero_le _, ?_⟩
    rw [attrsOK, Bool.and_eq_true, List.all_eq_true] at ha
    have h6 := of_decide_eq_true ha.1
    have hall : ∀ a ∈ x.attrs, szAt a ≤ 52 := fun a hm => by
      obtain ⟨i, hi, he⟩ := List.getElem_of_mem hm
      have := ha.2 i (List.mem_range.2 hi)
      rw [attrAtOK, Bool.and_eq_true] at this
      have e : x.attrs.getD i attrD = a := by simp [List.getD, hi, he]
      rw [e] at this
      have hk := this.1
      rw [attrOK, Bool.and_eq_true] at hk
      have := tag hk.1
      have := of_decide_eq_true hk.2
      unfold szAt; omega
    have : ∀ (l : List Attr), (∀ a ∈ l, szAt a ≤ 52) → szL szAt l ≤ 53 * l.length := by
      intro l
      induction l with
      | nil => intro _; exact Nat.zero_le _
      | cons a l ih =>
        intro h
        have h1 := h a (List.mem_cons_self ..)
        have h2 := ih fun b hb => h b (List.mem_cons_of_mem _ hb)
        have e : szL szAt (a :: l) = 1 + szAt a + szL szAt l := by simp [szL, sumL]; omega
        rw [e, List.length_cons]; omega
    have := this _ hall
    omega
  · simp only [Bool.and_eq_true, Bool.or_eq_true, decide_eq_true_eq] at h
    obtain ⟨_, ⟨⟨⟨hw, _⟩, hm⟩, ha⟩, _⟩ := h
    rw [within, Bool.and_eq_true] at hw
    have := of_decide_eq_true hw.2
    refine ⟨by rw [hm]; exact Nat.zero_le _, by omega, ?_⟩
    rw [List.isEmpty_iff.1 ha]; exact Nat.zero_le _
theorem goodNd_own {x : Node} {d : Int} (h : goodNd x d = true) : ownNd x = true ∧ goodNds x.kids (d + 1) = true := by
  cases x with
  | mk k s n t a ks =>
    rw [goodNd] at h
    simp only [Bool.and_eq_true] at h
    exact ⟨h.1.2.1, h.2⟩
mutual
theorem goodNd_sz : ∀ (x : Node) (d : Int), goodNd x d = true → szNd x + 1 ≤ 451 * cntNd x
  | .mk k s n t a ks, d, h => by
    obtain ⟨h1, h2⟩ := goodNd_own h
    have h3 := ownNd_sz h1
    have h4 := goodNds_sz ks (d + 1) h2
    have h3' : n.length ≤ 12 ∧ t.length ≤ 120 ∧ szL szAt a ≤ 318 := h3
    rw [szNd_mk, cntNd]
    omega
theorem goodNds_sz : ∀ (l : List Node) (d : Int), goodNds l d = true → szL szNd l ≤ 451 * cntNds l
  | [], _, _ => Nat.zero_le _
  | x :: r, d, h => by
    rw [goodNds, Bool.and_eq_true] at h
    have h1 := goodNd_sz x d h.1
    have h2 := goodNds_sz r d h.2
    have e : szL szNd (x :: r) = 1 + szNd x + szL szNd r := by simp [szL, sumL]; omega
    rw [e, cntNds]; omega
end
theorem treeOK_sz {l : List Node} (h : treeOK l = true) : szL szNd l ≤ 27060 := by
  obtain ⟨h1, h2⟩ := treeOK_good h
  have := goodNds_sz l 1 h1
  omega
theorem goods_at {l : List Node} {d : Int} (h : goodNds l d = true) {i : Nat} (hi : i < l.length) : goodNd (l.getD i nodeD) d = true := by
  induction l generalizing i with
  | nil => simp at hi
  | cons x r ih =>
    rw [goodNds, Bool.and_eq_true] at h
    cases i with
    | zero => exact h.1
    | succ i => exact ih h.2 (by simpa using hi)
theorem atP_good : ∀ (p : List Int) (l : List Node) (d : Int), goodNds l d = true → (atP l p).isNone = false → ownNd (atN l p) = true
  | [], l, d, _, h => by simp [atP] at h
  | i :: q, l, d, hg, h => by
    by_cases hi : 0 ≤ i ∧ i.toNat < l.length
    · match q with
      | [] =>
        unfold atN
        rw [atP_one hi]
        exact (goodNd_own (goods_at hg hi.2)).1
      | j :: q =>
        rw [atP_two hi] at h
        have := atP_good (j :: q) _ _ (goodNd_own (goods_at hg hi.2)).2 h
        unfold atN
        rw [atP_two hi]
        exact this
    · rw [atP_out hi] at h; cases h
theorem at_own {l : List Node} {p : List Int} (ht : treeOK l = true) (h : (atP l p).isNone = false) : ownNd (atN l p) = true := atP_good p l 1 (treeOK_good ht).1 h
theorem setAs_sz (ys : List Attr) (a : Attr) : szL szAt (setAs ys a) ≤ szL szAt ys + 1 + szAt a := by
  unfold setAs
  cases h : ys.findIdx? (isNm a.name) with
  | some i =>
    obtain ⟨hi, _⟩ := List.findIdx?_eq_some_iff_getElem.1 h
    have := szL_set szAt attrD a hi
    show szL szAt (ys.set i a) ≤ _
    omega
  | none =>
    show szL szAt (ys ++ [a]) ≤ _
    have : ∀ l : List Attr, szL szAt (l ++ [a]) = szL szAt l + 1 + szAt a := fun l => by simp [szL, sumL]; omega
    rw [this]; omega
theorem attrOK_sz {a : Attr} (h : attrOK a = true) : szAt a ≤ 52 := by
  rw [attrOK, Bool.and_eq_true] at h
  have h1 := h.1
  rw [tagOK, Bool.and_eq_true, within, Bool.and_eq_true] at h1
  have := of_decide_eq_true h1.1.2
  have := of_decide_eq_true h.2
  unfold szAt; omega
theorem setT_sz {l : List Node} {p : List Int} {a : Attr} (ht : treeOK l = true) (ha : attrOK a = true) (h : (atP l p).isNone = false) : szL szNd (setT l p a) ≤ 60000 := by
  have h1 := treeOK_sz ht
  have h2 := putP_sz p l (withAs (atN l p) (setAs (atN l p).attrs a))
  have h3 := ownNd_sz (at_own ht h)
  have h4 := setAs_sz (atN l p).attrs a
  have h5 := attrOK_sz ha
  have hk : szL szNd (atN l p).kids ≤ szL szNd l := by
    have : ∀ (p : List Int) (l : List Node), (atP l p).isNone = false → szNd (atN l p) ≤ szL szNd l := by
      intro p
      induction p with
      | nil => intro l h; simp [atP] at h
      | cons i q ih =>
        intro l h
        by_cases hi : 0 ≤ i ∧ i.toNat < l.length
        · have hg := szL_get szNd nodeD hi.2
          match q with
          | [] => unfold atN; rw [atP_one hi]; exact hg
          | j :: q =>
            rw [atP_two hi] at h
            have := ih _ h
            have e : atN l (i :: j :: q) = atN (l.getD i.toNat nodeD).kids (j :: q) := by unfold atN; rw [atP_two hi]; rfl
            have h2 := szNd_eq (l.getD i.toNat nodeD)
            have e2 : (Node.mk 0 0 [] [] [] [] : Node) = nodeD := rfl
            rw [e2] at this
            rw [e]; omega
        · rw [atP_out hi] at h; cases h
    have h1 := this p l h
    have h2 := szNd_eq (atN l p)
    omega
  have hw : szNd (withAs (atN l p) (setAs (atN l p).attrs a)) = (atN l p).name.length + (atN l p).text.length + szL szAt (setAs (atN l p).attrs a) + szL szNd (atN l p).kids := szNd_mk _ _ _ _ _ _
  unfold setT
  omega
noncomputable def sp_setA : Spec := ⟨[.sl .node, .sl .int, .st .attr], [.rd, .rd, .rd], false, fun
  | [.dat ⟨.node, l⟩, .dat ⟨.int, p⟩, .agg [.str m, .str v]] => some (some (treeOK l = true ∧ p.length ≤ 1048576 ∧ m.length + v.length ≤ 1048576), .tup [.own true ⟨.node, stR l p ⟨m, v⟩⟩, .int .i64 (stC l p ⟨m, v⟩)], [])
  | _ => none⟩
@[push_cast] theorem sp_setA_ps : sp_setA.ps = [.sl .node, .sl .int, .st .attr] := rfl
@[push_cast] theorem sp_setA_md : sp_setA.modes = [.rd, .rd, .rd] := rfl
@[push_cast] theorem sp_setA_pure : sp_setA.pure = false := rfl
@[push_cast] theorem sp_setA_run (l : List Node) (p : List Int) (m v : Str) : sp_setA.run [.dat ⟨.node, l⟩, .dat ⟨.int, p⟩, .agg [.str m, .str v]] = some (some (treeOK l = true ∧ p.length ≤ 1048576 ∧ m.length + v.length ≤ 1048576), .tup [.own true ⟨.node, stR l p ⟨m, v⟩⟩, .int .i64 (stC l p ⟨m, v⟩)], []) := rfl
noncomputable def e_setAttr : Env := mk [(107, sp_attrOK), (70, sp_clonedT), (72, sp_attrAt), (108, sp_done)] [(7, [], []), (9, [7], []), (10, [6, 7, 10], [[1, 2], [1], [1], [1], [1]])] [(2000000, [.nil .node 6]), (52, [.zcl])] [(71, i_element)] (some 112)
@[push_cast] theorem e_setAttr_in : e_setAttr.inl = inlF [(71, i_element)] := rfl
@[push_cast] theorem e_setAttr_fn : e_setAttr.fnd = fndF (some 112) := rfl
@[push_cast] theorem e_setAttr_gh : e_setAttr.gh = ghOf [(2000000, [.nil .node 6]), (52, [.zcl])] := rfl
@[push_cast] theorem e_setAttr_dr : e_setAttr.dr = drOf [(7, [], []), (9, [7], []), (10, [6, 7, 10], [[1, 2], [1], [1], [1], [1]])] := rfl
@[push_cast] theorem e_setAttr_td : e_setAttr.td = td := rfl
@[push_cast] theorem e_setAttr_eqt : e_setAttr.eqt = eqt := rfl
@[push_cast] theorem e_setAttr_cal : e_setAttr.cal = calOf [(107, sp_attrOK), (70, sp_clonedT), (72, sp_attrAt), (108, sp_done)] := rfl
theorem c_setAttr : CRow P0 ety0 66 sp_setA := CRow.of (E := e_setAttr) (mkOk (.cons c_attrOK (.cons c_clonedT (.cons c_attrAt (.cons c_edited (.nil))))) (.cons ok_element (.nil)) (.one fd_find)) func66 rfl rfl rfl (by
  intro args p r outs h hq
  simp only [sp_setA] at h; split at h <;> cases h
  rename_i l p m v
  obtain ⟨ht, hp, ha⟩ := hq _ rfl
  have hz := treeOK_sz ht
  refine Body.intro (rs := [.tmp 6, .tmp 7]) rfl rfl rfl ?_
  apply vc_run 1000 (stop := false) rfl; simp only [push_cast, reduceIte, Nat.reduceEqDiff, Nat.reduceAdd, Nat.reduceSub, Nat.reduceLT, Int.reduceNeg, Int.reduceLE, Int.reduceLT, Int.reduceToNat, Nat.reduceLeDiff, UInt8.reduceOfNat, UInt8.reduceOfNatLT, and_self, Nat.reduceMul, decide_true, decide_false, Bool.not_true, Bool.not_false, implies_true]
  refine ⟨ha, fun h => ?_, fun h => ⟨by omega, ⟨lenZ_sz _ _ (by omega), by omega⟩, fun hn => ⟨fun _ => ?_, fun h => by simp at h⟩, fun hs => ⟨fun hk => ⟨fun _ => ?_, fun h => by simp at h⟩, fun hk => ?_⟩⟩⟩
  · rw [stR, stC, h]; rfl
  · rw [stR, stC, h, elC, hn]; rfl
  · rw [stR, stC, h, elC, hs, hk]; rfl
  have hA : attrOK ⟨m, v⟩ = true := by simpa using h
  have hC : stC l p ⟨m, v⟩ = doneC (setT l p ⟨m, v⟩) := by rw [stC, h, elC, hs, hk]; rfl
  have hR : stR l p ⟨m, v⟩ = doneR (setT l p ⟨m, v⟩) := by rw [stR, hC, doneR_eq]
  have hsz := setT_sz ht hA hs
  have hown := ownNd_sz (at_own ht hs)
  have hal := szL_len szAt (atN l p).attrs
  rw [hC, hR]
  refine ⟨fun h => h.elim, hs, by omega, fun hf => ?_, fun hf => ?_⟩
  · have hf := of_decide_eq_true hf
    cases hx : (atN l p).attrs.findIdx? (isNm m) with
    | none => rw [hx] at hf; exact absurd hf (by decide)
    | some i =>
      obtain ⟨hi, _⟩ := List.findIdx?_eq_some_iff_getElem.1 hx
      have e : setT l p ⟨m, v⟩ = putP l p (.mk (atN l p).kind (atN l p).space (atN l p).name (atN l p).text ((atN l p).attrs.set (idx (some i)).toNat ⟨m, v⟩) (atN l p).kids) := by
        unfold setT setAs
        rw [show (atN l p).attrs.findIdx? (isNm (⟨m, v⟩ : Attr).name) = some i from hx]
        rfl
      rw [← e]
      exact ⟨hs, ⟨by simp [idx], by show ((i : Nat) : Int) < _; omega⟩, by omega, rfl⟩
  · have hf := of_decide_eq_false hf
    cases hx : (atN l p).attrs.findIdx? (isNm m) with
    | some i => rw [hx] at hf; simp [idx] at hf
    | none =>
      have e : setT l p ⟨m, v⟩ = putP l p (.mk (atN l p).kind (atN l p).space (atN l p).name (atN l p).text ((atN l p).attrs ++ [⟨m, v⟩]) (atN l p).kids) := by
        unfold setT setAs
        rw [show (atN l p).attrs.findIdx? (isNm (⟨m, v⟩ : Attr).name) = none from hx]
        rfl
      rw [← e]
      exact ⟨hs, by unfold sizeOk; omega, hs, by omega, rfl⟩)
def seC (l : List Node) (p : List Int) (a : Attr) : Int := bif !decide (askE l p = 0) then askE l p else stC l p a
def seR (l : List Node) (p : List Int) (a : Attr) : List Node := bif decide (seC l p a = 0) then setT l p a else []
theorem askE_0 {l : List Node} {p : List Int} (h : askE l p = 0) : p.length ≤ 4096 ∧ askT l = 0 := by
  unfold askE at h
  by_cases h1 : 4096 < p.length
  · rw [decide_eq_true h1] at h; cases h
  · rw [decide_eq_false h1, cond_false] at h; exact ⟨by omega, h⟩
noncomputable def sp_SetA : Spec := ⟨[.sl .node, .sl .int, .st .attr], [.rd, .rd, .rd], false, fun
  | [.dat ⟨.node, l⟩, .dat ⟨.int, p⟩, .agg [.str m, .str v]] => some (some (szL szNd l ≤ 1048576 ∧ m.length + v.length ≤ 1048576), .tup [.own true ⟨.node, seR l p ⟨m, v⟩⟩, .int .i64 (seC l p ⟨m, v⟩)], [])
  | _ => none⟩
@[push_cast] theorem sp_SetA_ps : sp_SetA.ps = [.sl .node, .sl .int, .st .attr] := rfl
@[push_cast] theorem sp_SetA_md : sp_SetA.modes = [.rd, .rd, .rd] := rfl
@[push_cast] theorem sp_SetA_pure : sp_SetA.pure = false := rfl
@[push_cast] theorem sp_SetA_run (l : List Node) (p : List Int) (m v : Str) : sp_SetA.run [.dat ⟨.node, l⟩, .dat ⟨.int, p⟩, .agg [.str m, .str v]] = some (some (szL szNd l ≤ 1048576 ∧ m.length + v.length ≤ 1048576), .tup [.own true ⟨.node, seR l p ⟨m, v⟩⟩, .int .i64 (seC l p ⟨m, v⟩)], []) := rfl
noncomputable def e_SetAttr : Env := mk [(65, sp_askE), (66, sp_setA)] [] [(2000000, [.nil .node 6])] [] none
@[push_cast] theorem e_SetAttr_in : e_SetAttr.inl = inlF [] := rfl
@[push_cast] theorem e_SetAttr_fn : e_SetAttr.fnd = fndF none := rfl
@[push_cast] theorem e_SetAttr_gh : e_SetAttr.gh = ghOf [(2000000, [.nil .node 6])] := rfl
@[push_cast] theorem e_SetAttr_dr : e_SetAttr.dr = drOf [] := rfl
@[push_cast] theorem e_SetAttr_td : e_SetAttr.td = td := rfl
@[push_cast] theorem e_SetAttr_eqt : e_SetAttr.eqt = eqt := rfl
@[push_cast] theorem e_SetAttr_cal : e_SetAttr.cal = calOf [(65, sp_askE), (66, sp_setA)] := rfl
theorem c_SetAttr : CRow P0 ety0 30 sp_SetA := CRow.of (E := e_SetAttr) (mkOk (.cons c_faultE (.cons c_setAttr (.nil)))) func30 rfl rfl rfl (by
  intro args p r outs h hq
  simp only [sp_SetA] at h; split at h <;> cases h
  rename_i l p m v
  obtain ⟨hz, ha⟩ := hq _ rfl
  refine Body.intro (rs := [.tmp 6, .tmp 7]) rfl rfl rfl ?_
  apply vc_run 1000 (stop := false) rfl; simp only [push_cast, reduceIte, Nat.reduceEqDiff, Nat.reduceAdd, Nat.reduceSub, Nat.reduceLT, Int.reduceNeg, Int.reduceLE, Int.reduceLT, Int.reduceToNat, Nat.reduceLeDiff, UInt8.reduceOfNat, UInt8.reduceOfNatLT, and_self, Nat.reduceMul, decide_true, decide_false, Bool.not_true, Bool.not_false, implies_true]
  refine ⟨hz, fun h => ?_, fun h => ?_⟩
  · have h' : decide (askE l p = 0) = false := by simpa using h
    rw [seR, seC, h']
    simp only [Bool.not_false, cond_true, h']; rfl
  · have h' : askE l p = 0 := by simpa using h
    obtain ⟨hp, ht⟩ := askE_0 h'
    refine ⟨⟨(askT_0 ht).2, by omega, ha⟩, ?_⟩
    rw [seR, seC, h']; rfl)
end Go.Ab
