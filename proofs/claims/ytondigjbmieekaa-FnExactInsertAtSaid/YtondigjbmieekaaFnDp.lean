/- Trees that stay trees: a node in the place of another one. -/
import Derived.Test.YtondigjbmieekaaFnEe
import Derived.Test.YtondigjbmieekaaFnDa
set_option linter.all false
set_option linter.unusedSimpArgs false
set_option linter.unusedVariables false
set_option linter.unusedSectionVars false
set_option maxRecDepth 20000
set_option maxHeartbeats 1000000
namespace Go.Ab
open Go Go.Proofs.Try
theorem attrsOK_iff (ys : List Attr) : attrsOK ys = true ↔ ys.length ≤ 6 ∧ (∀ a ∈ ys, attrOK a = true) ∧ ys.Pairwise (fun a b => a.name ≠ b.name) := by
  constructor
  · intro h
    have hn := fun {i j : Nat} (hi : i < ys.length) (hj : j < i) => attrs_names h hi hj
    rw [attrsOK, Bool.and_eq_true, List.all_eq_true] at h
    refine ⟨of_decide_eq_true h.1, fun a ha => ?_, ?_⟩
    · obtain ⟨i, hi, rfl⟩ := List.getElem_of_mem ha
      have := h.2 i (List.mem_range.2 hi)
      rw [attrAtOK, Bool.and_eq_true] at this
      have e : ys.getD i attrD = ys[i] := by simp [List.getD, hi]
      rw [e] at this
      exact this.1
    · rw [List.pairwise_iff_getElem]
      intro i j hi hj hij
      have := hn hj hij
      have e1 : ys.getD i attrD = ys[i] := by simp [List.getD, hi]
      have e2 : ys.getD j attrD = ys[j] := by simp [List.getD, hj]
      rw [e1, e2] at this
      exact this
  · rintro ⟨h1, h2, h3⟩
    rw [attrsOK, Bool.and_eq_true, List.all_eq_true]
    refine ⟨decide_eq_true h1, fun i hi => ?_⟩
    have hi := List.mem_range.1 hi
    have e : ys.getD i attrD = ys[i] := by simp [List.getD, hi]
    rw [attrAtOK, e, h2 _ (List.getElem_mem hi), Bool.true_and, Bool.not_eq_true', List.any_eq_false]
    intro b hb hc
    obtain ⟨j, hj, rfl⟩ := List.getElem_of_mem hb
    rw [List.length_take] at hj
    rw [List.getElem_take] at hc
    rw [List.pairwise_iff_getElem] at h3
    exact h3 j i (by omega) hi (by omega) (of_decide_eq_true hc)
theorem attrsOK_filter {ys : List Attr} (p : Attr → Bool) (h : attrsOK ys = true) : attrsOK (ys.filter p) = true := by
  obtain ⟨h1, h2, h3⟩ := (attrsOK_iff ys).1 h
  exact (attrsOK_iff _).2 ⟨Nat.le_trans (List.length_filter_le _ _) h1, fun a ha => h2 a (List.mem_filter.1 ha).1, h3.sublist List.filter_sublist⟩
theorem goods_set {l : List Node} {d : Int} {y : Node} (h : goodNds l d = true) (hy : goodNd y d = true) (i : Nat) : goodNds (l.set i y) d = true := by
  induction l generalizing i with
  | nil => rfl
  | cons x r ih =>
    rw [goodNds, Bool.and_eq_true] at h
    cases i with
    | zero => rw [List.set_cons_zero, goodNds, hy, h.2]; rfl
    | succ i => rw [List.set_cons_succ, goodNds, h.1, ih h.2]; rfl
theorem cnts_set {l : List Node} {y : Node} {i : Nat} (hi : i < l.length) : cntNds (l.set i y) + cntNd (l.getD i nodeD) = cntNds l + cntNd y := by
  induction l generalizing i with
  | nil => simp at hi
  | cons x r ih =>
    cases i with
    | zero => rw [List.set_cons_zero, cntNds, cntNds]; simp [List.getD]; omega
    | succ i =>
      have := ih (i := i) (by simpa using hi)
      rw [List.set_cons_succ, cntNds, cntNds, List.getD_cons_succ]; omega
theorem any_kind {l l' : List Node} (h : l.map Node.kind = l'.map Node.kind) : l.any notText = l'.any notText := by
  have e : ∀ l : List Node, l.any notText = (l.map Node.kind).any fun k => !decide (k = 2) := fun l => by rw [List.any_map]; rfl
  rw [e, e, h]
theorem empty_kind {l l' : List Node} (h : l.map Node.kind = l'.map Node.kind) : l.isEmpty = l'.isEmpty := by
  cases l <;> cases l' <;> simp_all
theorem cntNd_eq (x : Node) : cntNd x = 1 + cntNds x.kids := by cases x; rw [cntNd]; rfl
theorem setK_good {y : Node} {ks : List Node} {d : Int} (h : goodNd y d = true) (hk : goodNds ks (d + 1) = true) (hm : ks.map Node.kind = y.kids.map Node.kind) : goodNd (setK y ks) d = true := by
  cases y with
  | mk k s m t a ks0 =>
    have hm : ks.map Node.kind = ks0.map Node.kind := hm
    have e1 := any_kind hm
    have e2 := empty_kind hm
    rw [setK, goodNd, ownNd_mk, holdsNd_mk, hk, e1, e2]
    rw [goodNd, ownNd_mk, holdsNd_mk, Bool.and_eq_true] at h
    rw [h.1]; rfl
theorem set_kind {l : List Node} {y : Node} {i : Nat} (hi : i < l.length) (h : y.kind = (l.getD i nodeD).kind) : (l.set i y).map Node.kind = l.map Node.kind := by
  apply List.ext_getElem?
  intro k
  rw [List.getElem?_map, List.getElem?_map, List.getElem?_set]
  split
  · rename_i hk
    subst hk
    rw [List.getElem?_eq_getElem hi]
    simp only [List.getD, List.getElem?_eq_getElem hi, Option.getD_some] at h
    simp [h]
  · rfl
theorem putP_keep : ∀ (p : List Int) (l : List Node) (x : Node) (d : Int), goodNds l d = true → (atP l p).isNone = false → (∀ d', goodNd (atN l p) d' = true → goodNd x d' = true) → x.kind = (atN l p).kind → cntNd x = cntNd (atN l p) →
    goodNds (putP l p x) d = true ∧ cntNds (putP l p x) = cntNds l ∧ (putP l p x).map Node.kind = l.map Node.kind
  | [], l, x, d, _, h, _, _, _ => by simp [atP] at h
  | i :: q, l, x, d, hg, h, hx, hk, hc => by
    by_cases hi : 0 ≤ i ∧ i.toNat < l.length
    · match q with
      | [] =>
        have e : atN l [i] = l.getD i.toNat nodeD := by unfold atN; rw [atP_one hi]; rfl
        rw [e] at hx hk hc
        rw [putP_one hi]
        have := cnts_set (y := x) hi.2
        exact ⟨goods_set hg (hx d (goods_at hg hi.2)) _, by omega, set_kind hi.2 hk⟩
      | j :: q =>
        rw [atP_two hi] at h
        have e : atN l (i :: j :: q) = atN (l.getD i.toNat nodeD).kids (j :: q) := by unfold atN; rw [atP_two hi]; rfl
        rw [e] at hx hk hc
        have hy := goods_at hg hi.2
        obtain ⟨g1, g2, g3⟩ := putP_keep (j :: q) _ x (d + 1) (goodNd_own hy).2 h hx hk hc
        rw [putP_two hi]
        have e2 : (Node.mk 0 0 [] [] [] [] : Node) = nodeD := rfl
        rw [e2]
        have hs := setK_good hy g1 g3
        have hc2 := cnts_set (y := setK (l.getD i.toNat nodeD) (putP (l.getD i.toNat nodeD).kids (j :: q) x)) hi.2
        have k1 := cntNd_eq (setK (l.getD i.toNat nodeD) (putP (l.getD i.toNat nodeD).kids (j :: q) x))
        have k2 := cntNd_eq (l.getD i.toNat nodeD)
        have k3 : (setK (l.getD i.toNat nodeD) (putP (l.getD i.toNat nodeD).kids (j :: q) x)).kids = putP (l.getD i.toNat nodeD).kids (j :: q) x := by cases l.getD i.toNat nodeD; rfl
        rw [k3] at k1
        refine ⟨goods_set hg hs _, by omega, set_kind hi.2 ?_⟩
        cases l.getD i.toNat nodeD; rfl
    · rw [atP_out hi] at h; cases h
theorem treeOK_of {l : List Node} (h : goodNds l 1 = true) (hc : cntNds l ≤ 60) : treeOK l = true := by
  rw [treeOK, (kidsM_good l 1 0 (by omega)).1 ⟨h, by omega⟩]
/-- An attribute goes. -/
def offAs (ys : List Attr) (n : Str) : List Attr := ys.filter fun a => !isNm n a
def dropT (l : List Node) (p : List Int) (n : Str) : List Node := putP l p (withAs (atN l p) (offAs (atN l p).attrs n))
theorem dropT_ok {l : List Node} {p : List Int} {n : Str} (h : treeOK l = true) (hs : (atP l p).isNone = false) : treeOK (dropT l p n) = true := by
  obtain ⟨h1, h2⟩ := treeOK_good h
  have hown := fun d' (hd : goodNd (atN l p) d' = true) => goodNd_own hd
  obtain ⟨g1, g2, _⟩ := putP_keep p l (withAs (atN l p) (offAs (atN l p).attrs n)) 1 h1 hs (fun d' hd => by
    revert hd
    cases atN l p with
    | mk k s m t a ks =>
      intro hd
      show goodNd (.mk k s m t (offAs a n) ks) d' = true
      rw [goodNd, ownNd_mk, holdsNd_mk] at hd ⊢
      simp only [Bool.and_eq_true, Bool.or_eq_true] at hd ⊢
      obtain ⟨⟨e1, e2, e3⟩, e4⟩ := hd
      refine ⟨⟨e1, ?_, e3⟩, e4⟩
      rcases e2 with ⟨e5, e6⟩ | ⟨e5, ⟨e6, e7⟩, e8⟩
      · exact .inl ⟨e5, ⟨e6.1.1, attrsOK_filter _ e6.1.2⟩, e6.2⟩
      · refine .inr ⟨e5, ⟨e6, ?_⟩, e8⟩
        rw [List.isEmpty_iff.1 e7]; rfl) rfl (by rw [cntNd_eq, cntNd_eq]; rfl)
  exact treeOK_of g1 (by rw [dropT, g2]; exact h2)
theorem off_none {ys : List Attr} {n : Str} (h : ys.findIdx? (isNm n) = none) : offAs ys n = ys := by
  rw [offAs, List.filter_eq_self]
  intro a ha
  simpa using List.findIdx?_eq_none_iff.1 h a ha
theorem off_some {ys : List Attr} {n : Str} (ho : attrsOK ys = true) {i : Nat} (h : ys.findIdx? (isNm n) = some i) : i < ys.length ∧ delL ys i (i + 1) = offAs ys n := by
  obtain ⟨hi, hp, hb⟩ := List.findIdx?_eq_some_iff_getElem.1 h
  refine ⟨hi, ?_⟩
  obtain ⟨_, _, h3⟩ := (attrsOK_iff ys).1 ho
  rw [List.pairwise_iff_getElem] at h3
  have e : ys = ys.take i ++ (ys[i] :: ys.drop (i + 1)) := by rw [← List.drop_eq_getElem_cons hi, List.take_append_drop]
  have f1 : (ys.take i).filter (fun a => !isNm n a) = ys.take i := by
    rw [List.filter_eq_self]
    intro a ha
    obtain ⟨j, hj, rfl⟩ := List.getElem_of_mem ha
    rw [List.length_take] at hj
    have := hb j (by omega)
    rw [List.getElem_take]
    simpa using this
  have f2 : (ys.drop (i + 1)).filter (fun a => !isNm n a) = ys.drop (i + 1) := by
    rw [List.filter_eq_self]
    intro a ha
    obtain ⟨j, hj, rfl⟩ := List.getElem_of_mem ha
    rw [List.length_drop] at hj
    rw [List.getElem_drop]
    have h4 := h3 i (i + 1 + j) hi (by omega) (by omega)
    have h5 : ys[i].name = n := of_decide_eq_true hp
    rw [h5] at h4
    have : isNm n ys[i + 1 + j] = false := decide_eq_false fun e => h4 e.symm
    rw [this]; rfl
  have : offAs ys n = (ys.take i).filter (fun a => !isNm n a) ++ (ys[i] :: ys.drop (i + 1)).filter (fun a => !isNm n a) := by
    unfold offAs
    conv => lhs; rw [e]
    rw [List.filter_append]
  rw [this, f1, List.filter_cons, hp]
  simp [delL, f2]
theorem off_len {ys : List Attr} {n : Str} (h : (offAs ys n).length = ys.length) : ys.findIdx? (isNm n) = none := by
  rw [List.findIdx?_eq_none_iff]
  have := List.length_filter_eq_length_iff.1 h
  intro a ha
  simpa using this a ha
theorem off_sz (ys : List Attr) (n : Str) : szL szAt (offAs ys n) ≤ szL szAt ys := by
  unfold offAs
  induction ys with
  | nil => exact Nat.le_refl _
  | cons x l ih =>
    have e : ∀ y r, szL szAt (y :: r) = 1 + szAt y + szL szAt r := fun y r => by simp [szL, sumL]; omega
    rw [List.filter_cons, e]
    split
    · rw [e]; omega
    · omega
theorem own_attrs {x : Node} (h : ownNd x = true) : attrsOK x.attrs = true := by
  rw [ownNd, Bool.or_eq_true] at h
  rcases h with h | h
  · simp only [Bool.and_eq_true] at h; exact h.2.1.2
  · simp only [Bool.and_eq_true] at h; rw [List.isEmpty_iff.1 h.2.1.2]; rfl
def dpC (l : List Node) (p : List Int) (n : Str) : Int := bif decide (65536 < n.length) then 2 else bif !decide (askE l p = 0) then askE l p else bif !decide (elC l p = 0) then elC l p else bif ((atN l p).attrs.findIdx? (isNm n)).isNone then 18 else 0
def dpR (l : List Node) (p : List Int) (n : Str) : List Node := bif decide (dpC l p n = 0) then dropT l p n else bif decide (dpC l p n = 18) then l else []
theorem elC_18 (l : List Node) (p : List Int) : elC l p ≠ 18 := by
  unfold elC
  cases (atP l p).isNone <;> cases decide ((atN l p).kind = 1) <;> decide
theorem askE_18 (l : List Node) (p : List Int) : askE l p ≠ 18 := by
  unfold askE askT
  cases decide (4096 < p.length) <;> cases decide (4096 < l.length) <;> cases treeOK l <;> decide
theorem elC_0 {l : List Node} {p : List Int} (h : elC l p = 0) : (atP l p).isNone = false ∧ (atN l p).kind = 1 := by
  unfold elC at h
  cases hs : (atP l p).isNone with
  | true => rw [hs] at h; cases h
  | false =>
    rw [hs, cond_false] at h
    by_cases hk : (atN l p).kind = 1
    · exact ⟨rfl, hk⟩
    · rw [decide_eq_false hk] at h; cases h
noncomputable def sp_dpA : Spec := ⟨[.sl .node, .sl .int, .sc], [.rd, .rd, .rd], false, fun
  | [.dat ⟨.node, l⟩, .dat ⟨.int, p⟩, .str n] => some (some (szL szNd l ≤ 1048576 ∧ p.length ≤ 1048576 ∧ n.length ≤ 1048576), .tup [.own true ⟨.node, dpR l p n⟩, .int .i64 (dpC l p n)], [])
  | _ => none⟩
@[push_cast] theorem sp_dpA_ps : sp_dpA.ps = [.sl .node, .sl .int, .sc] := rfl
@[push_cast] theorem sp_dpA_md : sp_dpA.modes = [.rd, .rd, .rd] := rfl
@[push_cast] theorem sp_dpA_pure : sp_dpA.pure = false := rfl
@[push_cast] theorem sp_dpA_run (l : List Node) (p : List Int) (n : Str) : sp_dpA.run [.dat ⟨.node, l⟩, .dat ⟨.int, p⟩, .str n] = some (some (szL szNd l ≤ 1048576 ∧ p.length ≤ 1048576 ∧ n.length ≤ 1048576), .tup [.own true ⟨.node, dpR l p n⟩, .int .i64 (dpC l p n)], []) := rfl
theorem withAs_self (x : Node) : withAs x x.attrs = x := by cases x; rfl
theorem set_self {l : List Node} {i : Nat} (hi : i < l.length) : l.set i (l.getD i nodeD) = l := by
  apply List.ext_getElem?
  intro k
  rw [List.getElem?_set]
  split
  · rename_i hk; subst hk; simp [List.getD, hi]
  · rfl
theorem putP_self : ∀ (p : List Int) (l : List Node), (atP l p).isNone = false → putP l p (atN l p) = l
  | [], l, h => by simp [atP] at h
  | i :: q, l, h => by
    by_cases hi : 0 ≤ i ∧ i.toNat < l.length
    · match q with
      | [] =>
        have e : atN l [i] = l.getD i.toNat nodeD := by unfold atN; rw [atP_one hi]; rfl
        rw [putP_one hi, e]
        exact set_self hi.2
      | j :: q =>
        rw [atP_two hi] at h
        have e : atN l (i :: j :: q) = atN (l.getD i.toNat nodeD).kids (j :: q) := by unfold atN; rw [atP_two hi]; rfl
        have := putP_self (j :: q) _ h
        have e2 : (Node.mk 0 0 [] [] [] [] : Node) = nodeD := rfl
        rw [e2] at this
        rw [putP_two hi, e, e2, this]
        have k : setK (l.getD i.toNat nodeD) (l.getD i.toNat nodeD).kids = l.getD i.toNat nodeD := by cases l.getD i.toNat nodeD; rfl
        rw [k]
        exact set_self hi.2
    · rw [atP_out hi] at h; cases h
noncomputable def e_DropAttr : Env := mk [(69, sp_isLong), (65, sp_askE), (70, sp_clonedT), (72, sp_attrAt), (73, sp_delAt)] [] [(2000000, [.nil .node 6, .zcl])] [(71, i_element)] (some 112)
@[push_cast] theorem e_DropAttr_in : e_DropAttr.inl = inlF [(71, i_element)] := rfl
@[push_cast] theorem e_DropAttr_fn : e_DropAttr.fnd = fndF (some 112) := rfl
@[push_cast] theorem e_DropAttr_gh : e_DropAttr.gh = ghOf [(2000000, [.nil .node 6, .zcl])] := rfl
@[push_cast] theorem e_DropAttr_dr : e_DropAttr.dr = drOf [] := rfl
@[push_cast] theorem e_DropAttr_td : e_DropAttr.td = td := rfl
@[push_cast] theorem e_DropAttr_eqt : e_DropAttr.eqt = eqt := rfl
@[push_cast] theorem e_DropAttr_cal : e_DropAttr.cal = calOf [(69, sp_isLong), (65, sp_askE), (70, sp_clonedT), (72, sp_attrAt), (73, sp_delAt)] := rfl
theorem c_DropAttr : CRow P0 ety0 35 sp_dpA := CRow.of (E := e_DropAttr) (mkOk (.cons c_isLong (.cons c_faultE (.cons c_clonedT (.cons c_attrAt (.cons c_delAt (.nil)))))) (.cons ok_element (.nil)) (.one fd_find)) func35 rfl rfl rfl (by
  intro args p r outs h hq
  simp only [sp_dpA] at h; split at h <;> cases h
  rename_i l p n
  obtain ⟨hz, hp, hn⟩ := hq _ rfl
  refine Body.intro (rs := [.tmp 6, .tmp 7]) rfl rfl rfl ?_
  apply vc_run 1000 (stop := false) rfl; simp only [push_cast, reduceIte, Nat.reduceEqDiff, Nat.reduceAdd, Nat.reduceSub, Nat.reduceLT, Int.reduceNeg, Int.reduceLE, Int.reduceLT, Int.reduceToNat, Nat.reduceLeDiff, UInt8.reduceOfNat, UInt8.reduceOfNatLT, and_self, Nat.reduceMul, decide_true, decide_false, Bool.not_true, Bool.not_false, implies_true]
  rw [isLong_one]
  refine ⟨fun h => ?_, fun h => ⟨hz, fun h2 => ?_, fun h2 => ⟨hz, ⟨lenZ_sz _ _ hz, by omega⟩, fun hs => ⟨fun _ => ?_, fun h => by simp at h⟩, fun hs => ⟨fun hk => ⟨fun _ => ?_, fun h => by simp at h⟩, fun hk => ⟨fun h => h.elim, hs, ?_, ?_, ?_⟩⟩⟩⟩⟩
  · have e : dpC l p n = 2 := by rw [dpC, show decide (65536 < n.length) = true from h]; rfl
    rw [dpR, e]; rfl
  · have h' : decide (askE l p = 0) = false := by simpa using h2
    have e : dpC l p n = askE l p := by rw [dpC, show decide (65536 < n.length) = false from h, h']; rfl
    rw [dpR, e, h', decide_eq_false (askE_18 l p)]; rfl
  all_goals
    have h' : decide (askE l p = 0) = true := by simpa using h2
    have e0 : dpC l p n = bif !decide (elC l p = 0) then elC l p else bif ((atN l p).attrs.findIdx? (isNm n)).isNone then 18 else 0 := by rw [dpC, show decide (65536 < n.length) = false from h, h']; rfl
  · have e : dpC l p n = 16 := by rw [e0, elC, hs]; rfl
    rw [dpR, e]; rfl
  · have e : dpC l p n = 9 := by rw [e0, elC, hs, hk]; rfl
    rw [dpR, e]; rfl
  all_goals
    have e1 : dpC l p n = bif ((atN l p).attrs.findIdx? (isNm n)).isNone then 18 else 0 := by rw [e0, elC, hs, hk]; rfl
    have ht := (askT_0 (askE_0 (of_decide_eq_true h')).2).2
    have hown := at_own ht hs
    have hal := szL_len szAt (atN l p).attrs
    have hsz := ownNd_sz hown
  · omega
  · intro hf
    have hf := of_decide_eq_true hf
    cases hx : (atN l p).attrs.findIdx? (isNm n) with
    | some i => rw [hx] at hf; exact absurd hf (by simp [idx])
    | none =>
      rw [hx] at e1
      have e : dpC l p n = 18 := e1
      rw [dpR, e, putP_self p l hs]; rfl
  · intro hf
    have hf := of_decide_eq_false hf
    cases hx : (atN l p).attrs.findIdx? (isNm n) with
    | none => rw [hx] at hf; exact absurd (show idx none < 0 by decide) hf
    | some i =>
      rw [hx] at e1
      have e : dpC l p n = 0 := e1
      obtain ⟨hi, hd⟩ := off_some (own_attrs hown) hx
      have e2 : idx (some i) = (i : Int) := rfl
      have e3 : (((i : Nat) : Int) + 1).toNat = i + 1 := by omega
      rw [e2, e3, Int.toNat_natCast, hd, e, dpR, e]
      exact ⟨hs, by constructor <;> omega, ⟨by omega, by omega, by omega⟩, hs, rfl⟩)
theorem off_step {ys : List Attr} (n : Str) {j : Nat} (h : j < ys.length) : offAs (ys.take (j + 1)) n = offAs (ys.take j) n ++ (bif isNm n (ys.getD j attrD) then [] else [ys.getD j attrD]) := by
  rw [List.take_succ_eq_append_getElem h, offAs, List.filter_append, offAs]
  have e : ys.getD j attrD = ys[j] := by simp [List.getD, h]
  rw [e]
  cases hp : isNm n ys[j] <;> simp [List.filter_cons, hp]
theorem off_le (ys : List Attr) (n : Str) : (offAs ys n).length ≤ ys.length := List.length_filter_le _ _
noncomputable def e_DropAttr2 : Env := mk [(60, sp_askE), (62, sp_elX), (68, sp_clonedT), (64, sp_putLA), (63, sp_doneX)] [] [] [] none
@[push_cast] theorem e_DropAttr2_in : e_DropAttr2.inl = inlF [] := rfl
@[push_cast] theorem e_DropAttr2_fn : e_DropAttr2.fnd = fndF none := rfl
@[push_cast] theorem e_DropAttr2_gh : e_DropAttr2.gh = ghOf [] := rfl
@[push_cast] theorem e_DropAttr2_dr : e_DropAttr2.dr = drOf [] := rfl
@[push_cast] theorem e_DropAttr2_td : e_DropAttr2.td = td := rfl
@[push_cast] theorem e_DropAttr2_eqt : e_DropAttr2.eqt = eqt := rfl
@[push_cast] theorem e_DropAttr2_cal : e_DropAttr2.cal = calOf [(60, sp_askE), (62, sp_elX), (68, sp_clonedT), (64, sp_putLA), (63, sp_doneX)] := rfl
theorem c_DropAttr2 : CRow P0 ety0 34 sp_dpA := CRow.of (E := e_DropAttr2) (mkOk (.cons c_l09Ask (.cons c_l09Element (.cons c_l03Copy (.cons c_l09Put (.cons c_l09Done (.nil))))))) func34 rfl rfl rfl (by
  intro args p r outs h hq
  simp only [sp_dpA] at h; split at h <;> cases h
  rename_i l p n
  obtain ⟨hz, hp, hn⟩ := hq _ rfl
  refine Body.intro (rs := [.tmp 6, .tmp 7]) rfl rfl rfl ?_
  apply vc_run 1000 (stop := false) rfl; simp only [push_cast, reduceIte, Nat.reduceEqDiff, Nat.reduceAdd, Nat.reduceSub, Nat.reduceLT, Int.reduceNeg, Int.reduceLE, Int.reduceLT, Int.reduceToNat, Nat.reduceLeDiff, UInt8.reduceOfNat, UInt8.reduceOfNatLT, and_self, Nat.reduceMul, decide_true, decide_false, Bool.not_true, Bool.not_false, implies_true]
  rw [len_4096, len_4096p, big_int]
  refine ⟨fun h => ?_, fun h => ⟨fun h1 => ?_, fun h1 => ⟨hz, fun h2 => ?_, fun h2 => ⟨⟨hz, hp⟩, fun h3 => ?_, fun h3 => ?_⟩⟩⟩⟩
  · have e : dpC l p n = 2 := by
      unfold dpC askE askT
      revert h
      cases decide (65536 < n.length) <;> cases decide (4096 < l.length) <;> cases decide (4096 < p.length) <;> simp
    rw [dpR, e]; rfl
  · have e : dpC l p n = 2 := by rw [dpC, show decide (65536 < n.length) = true from h1]; rfl
    rw [dpR, e]; rfl
  · have h' : decide (askE l p = 0) = false := by simpa using h2
    have e : dpC l p n = askE l p := by rw [dpC, show decide (65536 < n.length) = false from h1, h']; rfl
    rw [dpR, e, h', decide_eq_false (askE_18 l p)]; rfl
  all_goals
    have h' : decide (askE l p = 0) = true := by simpa using h2
    have e0 : dpC l p n = bif !decide (elC l p = 0) then elC l p else bif ((atN l p).attrs.findIdx? (isNm n)).isNone then 18 else 0 := by rw [dpC, show decide (65536 < n.length) = false from h1, h']; rfl
  · have h3' : decide (elC l p = 0) = false := by simpa using h3
    have e : dpC l p n = elC l p := by rw [e0, h3']; rfl
    rw [dpR, e, h3', decide_eq_false (elC_18 l p)]; rfl
  have hL : elC l p = 0 := by simpa using h3
  obtain ⟨hs, hk⟩ := elC_0 hL
  have ht := (askT_0 (askE_0 (of_decide_eq_true h')).2).2
  have e1 : dpC l p n = bif ((atN l p).attrs.findIdx? (isNm n)).isNone then 18 else 0 := by rw [e0, hL]; rfl
  have hown := at_own ht hs
  have hal := szL_len szAt (atN l p).attrs
  have hsz := ownNd_sz hown
  have hok := dropT_ok (n := n) ht hs
  have hsz2 := treeOK_sz hok
  rw [atX_atN hs]
  clear hq h h1 h2 h3 h' e0
  refine Run.loop [11, 12] [0, 1, 2, 9] [0] rfl (fun k vs bs => ∃ j : Nat, vs = [.own true ⟨.attr, offAs ((atN l p).attrs.take j) n⟩, .int .i64 j] ∧
    bs = [[.int .i64 (atN l p).kind, .int .i64 (atN l p).space, .str (atN l p).name, .str (atN l p).text, .dat ⟨.attr, (atN l p).attrs⟩, .dat ⟨.node, (atN l p).kids⟩]] ∧ j ≤ (atN l p).attrs.length ∧ k = (atN l p).attrs.length - j) (atN l p).attrs.length ?_ ?_
  · simp only [push_cast, reduceIte, Nat.reduceEqDiff, Nat.reduceAdd, Nat.reduceSub, Nat.reduceLT, Int.reduceNeg, Int.reduceLE, Int.reduceLT, Int.reduceToNat, Nat.reduceLeDiff, UInt8.reduceOfNat, UInt8.reduceOfNatLT, and_self, Nat.reduceMul, decide_true, decide_false, Bool.not_true, Bool.not_false, implies_true]
    exact ⟨0, rfl, by omega, by omega⟩
  rintro k vs bs ⟨j, rfl, rfl, hj, rfl⟩
  simp only [push_cast, reduceIte, Nat.reduceEqDiff, Nat.reduceAdd, Nat.reduceSub, Nat.reduceLT, Int.reduceNeg, Int.reduceLE, Int.reduceLT, Int.reduceToNat, Nat.reduceLeDiff, UInt8.reduceOfNat, UInt8.reduceOfNatLT, and_self, Nat.reduceMul, decide_true, decide_false, Bool.not_true, Bool.not_false, implies_true]
  apply vc_run 1000 (stop := false) rfl; simp only [push_cast, reduceIte, Nat.reduceEqDiff, Nat.reduceAdd, Nat.reduceSub, Nat.reduceLT, Int.reduceNeg, Int.reduceLE, Int.reduceLT, Int.reduceToNat, Nat.reduceLeDiff, UInt8.reduceOfNat, UInt8.reduceOfNatLT, and_self, Nat.reduceMul, decide_true, decide_false, Bool.not_true, Bool.not_false, implies_true]
  refine ⟨fun hlt => ?_, fun hge => ?_⟩
  · have hlt : j < (atN l p).attrs.length := Int.ofNat_lt.1 (of_decide_eq_true hlt)
    have hst := off_step n hlt
    have hle := off_le ((atN l p).attrs.take j) n
    have hle2 : (offAs ((atN l p).attrs.take j) n).length ≤ j := by rw [List.length_take] at hle; omega
    simp only [gd_nat]
    refine ⟨by omega, fun hy => ⟨by omega, by unfold sizeOk; omega, by constructor <;> omega, _, ?_, j + 1, ?_, by omega, rfl⟩, fun hn => ⟨by constructor <;> omega, _, ?_, j + 1, ?_, by omega, rfl⟩⟩
    · omega
    · rw [hst, show isNm n ((atN l p).attrs.getD j attrD) = false by simpa [isNm] using hy]; rfl
    · omega
    · rw [hst, show isNm n ((atN l p).attrs.getD j attrD) = true by simpa [isNm] using hn, cond_true, List.append_nil]; rfl
  · have hge : j = (atN l p).attrs.length := by have := of_decide_eq_false hge; omega
    subst hge
    rw [List.take_length] at *
    have hput : putL l p [Node.mk (atN l p).kind (atN l p).space (atN l p).name (atN l p).text (offAs (atN l p).attrs n) (atN l p).kids] = dropT l p n := by
      rw [putL_put p l _ hs]; rfl
    rw [hput]
    refine ⟨fun h => ⟨hz, ?_⟩, fun h => ⟨⟨hz, hp, hs⟩, by omega, ?_⟩⟩
    · have h' : (offAs (atN l p).attrs n).length = (atN l p).attrs.length := by have := of_decide_eq_true h; omega
      rw [off_len h'] at e1
      have e : dpC l p n = 18 := e1
      rw [dpR, e]; rfl
    · have h' : ¬ (offAs (atN l p).attrs n).length = (atN l p).attrs.length := by have := of_decide_eq_false h; omega
      cases hx : (atN l p).attrs.findIdx? (isNm n) with
      | none => rw [off_none hx] at h'; exact absurd rfl h'
      | some i =>
        rw [hx] at e1
        have e : dpC l p n = 0 := e1
        rw [dpR, e, doneR, doneC, hok]; rfl)
end Go.Ab
