/- Edits: a node is put into a tree. -/
import Derived.Test.YtondigjbmieekaaFnEe
import Derived.Test.YtondigjbmieekaaFnIn
import Derived.Test.YtondigjbmieekaaFnDp
set_option linter.all false
set_option linter.unusedSimpArgs false
set_option linter.unusedVariables false
set_option linter.unusedSectionVars false
set_option maxRecDepth 20000
set_option maxHeartbeats 1000000
namespace Go.Ab
open Go Go.Proofs.Try
def lastI (p : List Int) : Int := p.getD (p.length - 1) 0
def headP (p : List Int) : List Int := p.take (p.length - 1)
def insT (l : List Node) (p : List Int) (x : Node) : List Node := bif decide (p.length < 2) then insL l (lastI p).toNat x else putP l (headP p) (setK (atN l (headP p)) (insL (atN l (headP p)).kids (lastI p).toNat x))
def plC (l : List Node) (p : List Int) : Int := bif decide (p.length = 0) then 16 else bif decide (p.length < 2) then (bif within (lastI p) 0 (l.length : Nat) then 0 else 16) else bif (atP l (headP p)).isNone then 16 else bif within (lastI p) 0 ((atN l (headP p)).kids.length : Nat) then 0 else 16
def iaC (l : List Node) (p : List Int) (x : Node) : Int := bif !treeOK [x] then 1 else bif !decide (plC l p = 0) then 16 else doneC (insT l p x)
def iaR (l : List Node) (p : List Int) (x : Node) : List Node := bif decide (iaC l p x = 0) then insT l p x else []
theorem last_gd {p : List Int} (h : 0 < p.length) : gd p 0 ((p.length : Int) - 1) = lastI p := by
  rw [show ((p.length : Int) - 1) = ((p.length - 1 : Nat) : Int) by omega, gd_nat]; rfl
theorem head_cut {p : List Int} (h : 0 < p.length) : cut p 0 ((p.length : Int) - 1) = headP p := by
  have e : ((p.length : Int) - 1).toNat = p.length - 1 := by omega
  simp [cut, headP, e]
theorem atN_le : ∀ (p : List Int) (l : List Node), (atP l p).isNone = false → szNd (atN l p) ≤ szL szNd l
  | [], l, h => by simp [atP] at h
  | i :: q, l, h => by
    by_cases hi : 0 ≤ i ∧ i.toNat < l.length
    · have hg := szL_get szNd nodeD hi.2
      match q with
      | [] => unfold atN; rw [atP_one hi]; exact hg
      | j :: q =>
        rw [atP_two hi] at h
        have := atN_le (j :: q) _ h
        have e : atN l (i :: j :: q) = atN (l.getD i.toNat nodeD).kids (j :: q) := by unfold atN; rw [atP_two hi]; rfl
        have h2 := szNd_eq (l.getD i.toNat nodeD)
        have e2 : (Node.mk 0 0 [] [] [] [] : Node) = nodeD := rfl
        rw [e2] at this
        rw [e]; omega
    · rw [atP_out hi] at h; cases h
theorem insL_sz (l : List Node) (i : Nat) (x : Node) : szL szNd (insL l i x) = szL szNd l + 1 + szNd x := by
  have happ : ∀ a b : List Node, szL szNd (a ++ b) = szL szNd a + szL szNd b := fun a b => by simp [szL, sumL]; omega
  have hcons : ∀ y (r : List Node), szL szNd (y :: r) = 1 + szNd y + szL szNd r := fun y r => by simp [szL, sumL]; omega
  have e : szL szNd l = szL szNd (l.take i) + szL szNd (l.drop i) := by rw [← happ, List.take_append_drop]
  rw [insL, happ, hcons]; omega
theorem sz_one (x : Node) : szL szNd [x] = 1 + szNd x := by simp [szL, sumL]
theorem insT_sz {l : List Node} {p : List Int} {x : Node} (ht : treeOK l = true) (hx : treeOK [x] = true) (hc : plC l p = 0) : szL szNd (insT l p x) ≤ 108300 := by
  have h1 := treeOK_sz ht
  have h2 := treeOK_sz hx
  rw [sz_one] at h2
  unfold plC at hc
  by_cases hp0 : p.length = 0
  · rw [decide_eq_true hp0] at hc; cases hc
  rw [decide_eq_false hp0, cond_false] at hc
  unfold insT
  by_cases hp2 : p.length < 2
  · rw [decide_eq_true hp2, cond_true, insL_sz]; omega
  · rw [decide_eq_false hp2, cond_false] at hc ⊢
    cases hs : (atP l (headP p)).isNone with
    | true => rw [hs] at hc; cases hc
    | false =>
      have h3 := putP_sz (headP p) l (setK (atN l (headP p)) (insL (atN l (headP p)).kids (lastI p).toNat x))
      have h4 := setK_sz (atN l (headP p)) (insL (atN l (headP p)).kids (lastI p).toNat x)
      have h5 := insL_sz (atN l (headP p)).kids (lastI p).toNat x
      have h6 := atN_le _ _ hs
      omega
theorem setK_eq (x : Node) (ks : List Node) : Node.mk x.kind x.space x.name x.text x.attrs ks = setK x ks := by cases x; rfl
noncomputable def sp_iaA : Spec := ⟨[.sl .node, .sl .int, .st .node], [.rd, .rd, .rd], false, fun
  | [.dat ⟨.node, l⟩, .dat ⟨.int, p⟩, .agg [.int .i64 k, .int .i64 s, .str m, .str t, .dat ⟨.attr, a⟩, .dat ⟨.node, ks⟩]] => some (some (treeOK l = true ∧ p.length ≤ 1048576 ∧ szNd (.mk k s m t a ks) ≤ 1048576), .tup [.own true ⟨.node, iaR l p (.mk k s m t a ks)⟩, .int .i64 (iaC l p (.mk k s m t a ks))], [])
  | _ => none⟩
@[push_cast] theorem sp_iaA_ps : sp_iaA.ps = [.sl .node, .sl .int, .st .node] := rfl
@[push_cast] theorem sp_iaA_md : sp_iaA.modes = [.rd, .rd, .rd] := rfl
@[push_cast] theorem sp_iaA_pure : sp_iaA.pure = false := rfl
@[push_cast] theorem sp_iaA_run (l : List Node) (p : List Int) (k s : Int) (m t : Str) (a : List Attr) (ks : List Node) : sp_iaA.run [.dat ⟨.node, l⟩, .dat ⟨.int, p⟩, .agg [.int .i64 k, .int .i64 s, .str m, .str t, .dat ⟨.attr, a⟩, .dat ⟨.node, ks⟩]] = some (some (treeOK l = true ∧ p.length ≤ 1048576 ∧ szNd (.mk k s m t a ks) ≤ 1048576), .tup [.own true ⟨.node, iaR l p (.mk k s m t a ks)⟩, .int .i64 (iaC l p (.mk k s m t a ks))], []) := rfl
noncomputable def e_insertAt : Env := mk [(100, sp_treeOKb), (70, sp_clonedT), (111, sp_cloned), (117, sp_within), (118, sp_insNd), (108, sp_done)] [(10, [6, 7, 8, 10], [[1, 2, 3], [1, 2], [1, 2], [1, 2], [1, 2]])] [(2000000, [.nil .node 6]), (50, [.zcl])] [(116, i_holder)] (some 112)
@[push_cast] theorem e_insertAt_in : e_insertAt.inl = inlF [(116, i_holder)] := rfl
@[push_cast] theorem e_insertAt_fn : e_insertAt.fnd = fndF (some 112) := rfl
@[push_cast] theorem e_insertAt_gh : e_insertAt.gh = ghOf [(2000000, [.nil .node 6]), (50, [.zcl])] := rfl
@[push_cast] theorem e_insertAt_dr : e_insertAt.dr = drOf [(10, [6, 7, 8, 10], [[1, 2, 3], [1, 2], [1, 2], [1, 2], [1, 2]])] := rfl
@[push_cast] theorem e_insertAt_td : e_insertAt.td = td := rfl
@[push_cast] theorem e_insertAt_eqt : e_insertAt.eqt = eqt := rfl
@[push_cast] theorem e_insertAt_cal : e_insertAt.cal = calOf [(100, sp_treeOKb), (70, sp_clonedT), (111, sp_cloned), (117, sp_within), (118, sp_insNd), (108, sp_done)] := rfl
theorem c_insertAt : CRow P0 ety0 79 sp_iaA := CRow.of (E := e_insertAt) (mkOk (.cons c_treeOKb (.cons c_clonedT (.cons c_cloned (.cons c_within (.cons c_insNd (.cons c_edited (.nil))))))) (.cons ok_holder (.nil)) (.one fd_find)) func79 rfl rfl rfl (by
  intro args p r outs h hq
  simp only [sp_iaA] at h; split at h <;> cases h
  rename_i l p k s m t a ks
  obtain ⟨ht, hp, hx⟩ := hq _ rfl
  have hz := treeOK_sz ht
  refine Body.intro (rs := [.tmp 6, .tmp 7]) rfl rfl rfl ?_
  apply vc_run 1000 (stop := false) rfl; simp only [push_cast, reduceIte, Nat.reduceEqDiff, Nat.reduceAdd, Nat.reduceSub, Nat.reduceLT, Int.reduceNeg, Int.reduceLE, Int.reduceLT, Int.reduceToNat, Nat.reduceLeDiff, UInt8.reduceOfNat, UInt8.reduceOfNatLT, and_self, Nat.reduceMul, decide_true, decide_false, Bool.not_true, Bool.not_false, implies_true]
  have hlen := szL_len szNd l
  generalize hX : Node.mk k s m t a ks = x at *
  refine ⟨by rw [sz_one]; omega, fun h => ?_, fun h => ⟨by omega, fun h2 => ⟨fun h0 => ?_, fun h0 => ?_⟩, fun h2 => ?_⟩⟩
  · have e : iaC l p x = 1 := by rw [iaC, show (!treeOK [x]) = true from h]; rfl
    rw [iaR, e]; rfl
  all_goals
    have hx1 : treeOK [x] = true := by simpa using h
    have eC : iaC l p x = bif !decide (plC l p = 0) then 16 else doneC (insT l p x) := by rw [iaC, hx1]; rfl
  · have hp0 : p.length = 0 := by
      have h2 := of_decide_eq_true h2
      by_cases h' : p.length = 0
      · exact h'
      · rw [show decide ((p.length : Int) = 0) = false from decide_eq_false (by omega)] at h0; cases h0
    have e : iaC l p x = 16 := by rw [eC, plC, decide_eq_true hp0]; rfl
    rw [iaR, e]; rfl
  · have hp0 : ¬ p.length = 0 := fun h' => by
      rw [show decide ((p.length : Int) = 0) = true from decide_eq_true (by omega)] at h0; cases h0
    have hp2 : p.length < 2 := by have := of_decide_eq_true h2; omega
    have hpl : plC l p = bif within (lastI p) 0 (l.length : Nat) then 0 else 16 := by rw [plC, decide_eq_false hp0, decide_eq_true hp2]; rfl
    have hT : insT l p x = insL l (lastI p).toNat x := by rw [insT, decide_eq_true hp2]; rfl
    rw [last_gd (by omega)]
    refine ⟨by constructor <;> omega, by omega, fun hw => ?_, fun hw => ?_⟩
    · have e : iaC l p x = 16 := by rw [eC, hpl, show within (lastI p) 0 (l.length : Nat) = false by simpa using hw]; rfl
      rw [iaR, e]; rfl
    · have hw : within (lastI p) 0 (l.length : Nat) = true := by simpa using hw
      have hpl0 : plC l p = 0 := by rw [hpl, hw]; rfl
      have hs := insT_sz ht hx1 hpl0
      have e : iaC l p x = doneC (insT l p x) := by rw [eC, hpl0]; rfl
      rw [within, Bool.and_eq_true] at hw
      have w1 := of_decide_eq_true hw.1
      have w2 := of_decide_eq_true hw.2
      have eI : l.take (lastI p).toNat ++ x :: l.drop (lastI p).toNat = insT l p x := hT.symm
      rw [eI, e, iaR, e, ← doneR_eq]
      exact ⟨by omega, ⟨w1, w2, by omega⟩, by omega, rfl⟩
  · have hp2 : ¬ p.length < 2 := by have := of_decide_eq_false h2; omega
    have hp0 : ¬ p.length = 0 := by omega
    have hp0' : decide ((p.length : Int) = 0) = false := decide_eq_false (by omega)
    rw [last_gd (by omega), head_cut (by omega), hp0']
    have hpl : plC l p = bif (atP l (headP p)).isNone then 16 else bif within (lastI p) 0 ((atN l (headP p)).kids.length : Nat) then 0 else 16 := by rw [plC, decide_eq_false hp0, decide_eq_false hp2]; rfl
    have hT : insT l p x = putP l (headP p) (setK (atN l (headP p)) (insL (atN l (headP p)).kids (lastI p).toNat x)) := by rw [insT, decide_eq_false hp2]; rfl
    have hhl : (headP p).length ≤ p.length := by rw [headP, List.length_take]; omega
    refine ⟨by constructor <;> omega, by omega, ⟨lenZ_sz _ _ (by omega), by omega⟩, fun hs => ⟨fun _ => ?_, fun h => by cases h⟩, fun hs => ⟨(fun h => by cases h), fun _ => ⟨by constructor <;> omega, by omega, fun hw => ?_, fun hw => ?_⟩⟩⟩
    · have e : iaC l p x = 16 := by rw [eC, hpl, hs]; rfl
      rw [iaR, e]; rfl
    · have e : iaC l p x = 16 := by rw [eC, hpl, hs, show within (lastI p) 0 ((atN l (headP p)).kids.length : Nat) = false by simpa using hw]; rfl
      rw [iaR, e]; rfl
    · have hw : within (lastI p) 0 ((atN l (headP p)).kids.length : Nat) = true := by simpa using hw
      have hpl0 : plC l p = 0 := by rw [hpl, hs, hw]; rfl
      have hsz := insT_sz ht hx1 hpl0
      have e : iaC l p x = doneC (insT l p x) := by rw [eC, hpl0]; rfl
      rw [within, Bool.and_eq_true] at hw
      have w1 := of_decide_eq_true hw.1
      have w2 := of_decide_eq_true hw.2
      have hkl := szL_len szNd (atN l (headP p)).kids
      have hke := szNd_eq (atN l (headP p))
      have hle := atN_le _ _ hs
      have eI : putP l (headP p) (Node.mk (atN l (headP p)).kind (atN l (headP p)).space (atN l (headP p)).name (atN l (headP p)).text (atN l (headP p)).attrs ((atN l (headP p)).kids.take (lastI p).toNat ++ x :: (atN l (headP p)).kids.drop (lastI p).toNat)) = insT l p x := by
        rw [hT, setK_eq]; rfl
      rw [eI, e, iaR, e, ← doneR_eq]
      exact ⟨by omega, ⟨w1, w2, by omega⟩, by omega, rfl⟩)
def inC (l : List Node) (p : List Int) (x : Node) : Int := bif !decide (askE l p = 0) then askE l p else iaC l p x
def inR (l : List Node) (p : List Int) (x : Node) : List Node := bif decide (inC l p x = 0) then insT l p x else []
noncomputable def sp_InA : Spec := ⟨[.sl .node, .sl .int, .st .node], [.rd, .rd, .rd], false, fun
  | [.dat ⟨.node, l⟩, .dat ⟨.int, p⟩, .agg [.int .i64 k, .int .i64 s, .str m, .str t, .dat ⟨.attr, a⟩, .dat ⟨.node, ks⟩]] => some (some (szL szNd l ≤ 1048576 ∧ p.length ≤ 1048576 ∧ szNd (.mk k s m t a ks) ≤ 1048576), .tup [.own true ⟨.node, inR l p (.mk k s m t a ks)⟩, .int .i64 (inC l p (.mk k s m t a ks))], [])
  | _ => none⟩
@[push_cast] theorem sp_InA_ps : sp_InA.ps = [.sl .node, .sl .int, .st .node] := rfl
@[push_cast] theorem sp_InA_md : sp_InA.modes = [.rd, .rd, .rd] := rfl
@[push_cast] theorem sp_InA_pure : sp_InA.pure = false := rfl
@[push_cast] theorem sp_InA_run (l : List Node) (p : List Int) (k s : Int) (m t : Str) (a : List Attr) (ks : List Node) : sp_InA.run [.dat ⟨.node, l⟩, .dat ⟨.int, p⟩, .agg [.int .i64 k, .int .i64 s, .str m, .str t, .dat ⟨.attr, a⟩, .dat ⟨.node, ks⟩]] = some (some (szL szNd l ≤ 1048576 ∧ p.length ≤ 1048576 ∧ szNd (.mk k s m t a ks) ≤ 1048576), .tup [.own true ⟨.node, inR l p (.mk k s m t a ks)⟩, .int .i64 (inC l p (.mk k s m t a ks))], []) := rfl
theorem askE_16 (l : List Node) (p : List Int) (x : Node) : inC l p x = bif !decide (askE l p = 0) then askE l p else iaC l p x := rfl
noncomputable def e_InsertAt : Env := mk [(65, sp_askE), (79, sp_iaA)] [] [(2000000, [.nil .node 6])] [] none
@[push_cast] theorem e_InsertAt_in : e_InsertAt.inl = inlF [] := rfl
@[push_cast] theorem e_InsertAt_fn : e_InsertAt.fnd = fndF none := rfl
@[push_cast] theorem e_InsertAt_gh : e_InsertAt.gh = ghOf [(2000000, [.nil .node 6])] := rfl
@[push_cast] theorem e_InsertAt_dr : e_InsertAt.dr = drOf [] := rfl
@[push_cast] theorem e_InsertAt_td : e_InsertAt.td = td := rfl
@[push_cast] theorem e_InsertAt_eqt : e_InsertAt.eqt = eqt := rfl
@[push_cast] theorem e_InsertAt_cal : e_InsertAt.cal = calOf [(65, sp_askE), (79, sp_iaA)] := rfl
theorem c_InsertAt : CRow P0 ety0 39 sp_InA := CRow.of (E := e_InsertAt) (mkOk (.cons c_faultE (.cons c_insertAt (.nil)))) func39 rfl rfl rfl (by
  intro args p r outs h hq
  simp only [sp_InA] at h; split at h <;> cases h
  rename_i l p k s m t a ks
  obtain ⟨hz, hp, hx⟩ := hq _ rfl
  refine Body.intro (rs := [.tmp 6, .tmp 7]) rfl rfl rfl ?_
  apply vc_run 1000 (stop := false) rfl; simp only [push_cast, reduceIte, Nat.reduceEqDiff, Nat.reduceAdd, Nat.reduceSub, Nat.reduceLT, Int.reduceNeg, Int.reduceLE, Int.reduceLT, Int.reduceToNat, Nat.reduceLeDiff, UInt8.reduceOfNat, UInt8.reduceOfNatLT, and_self, Nat.reduceMul, decide_true, decide_false, Bool.not_true, Bool.not_false, implies_true]
  refine ⟨hz, fun h => ?_, fun h => ?_⟩
  · have h' : decide (askE l p = 0) = false := by simpa using h
    rw [inR, inC, h']
    simp only [Bool.not_false, cond_true, h']; rfl
  · have h' : askE l p = 0 := by simpa using h
    obtain ⟨_, ht⟩ := askE_0 h'
    have e : inC l p (.mk k s m t a ks) = iaC l p (.mk k s m t a ks) := by rw [inC, h']; rfl
    rw [inR, e]
    exact ⟨⟨(askT_0 ht).2, hp, hx⟩, rfl⟩)
theorem cut_takeI {α : Type} (l : List α) (i : Int) : cut l 0 i = l.take i.toNat := by simp [cut]
theorem cut_dropI {α : Type} (l : List α) (i : Int) : cut l i (l.length : Nat) = l.drop i.toNat := by simp [cut]
theorem gd_zero (p : List Int) (h : p.length = 1) : gd p 0 0 = lastI p := by
  rw [← last_gd (by omega)]; congr 1; omega
noncomputable def e_InsertAt2 : Env := mk [(76, sp_within), (75, sp_treeOKb), (60, sp_askE), (77, sp_atX), (64, sp_putLA), (63, sp_doneX)] [(14, [0, 6, 9, 15, 16], [[], [0], [0], [0], [0], [0], [], [0, 1], [0, 1], [], [0, 1, 2], [0, 1, 2], [0, 1, 2], [0, 1, 2], [0, 1, 2]]), (16, [], []), (19, [0, 5, 8, 13, 15], [[], [0], [0], [0], [0], [], [0, 1], [0, 1], [], [0, 1, 2], [0, 1, 2], [0, 1, 2], [0, 1, 2]]), (20, [6, 7, 8], [[1], [1], [1], [1], [1]])] [(57, [.lit]), (104, [.lit])] [] none
@[push_cast] theorem e_InsertAt2_in : e_InsertAt2.inl = inlF [] := rfl
@[push_cast] theorem e_InsertAt2_fn : e_InsertAt2.fnd = fndF none := rfl
@[push_cast] theorem e_InsertAt2_gh : e_InsertAt2.gh = ghOf [(57, [.lit]), (104, [.lit])] := rfl
@[push_cast] theorem e_InsertAt2_dr : e_InsertAt2.dr = drOf [(14, [0, 6, 9, 15, 16], [[], [0], [0], [0], [0], [0], [], [0, 1], [0, 1], [], [0, 1, 2], [0, 1, 2], [0, 1, 2], [0, 1, 2], [0, 1, 2]]), (16, [], []), (19, [0, 5, 8, 13, 15], [[], [0], [0], [0], [0], [], [0, 1], [0, 1], [], [0, 1, 2], [0, 1, 2], [0, 1, 2], [0, 1, 2]]), (20, [6, 7, 8], [[1], [1], [1], [1], [1]])] := rfl
@[push_cast] theorem e_InsertAt2_td : e_InsertAt2.td = td := rfl
@[push_cast] theorem e_InsertAt2_eqt : e_InsertAt2.eqt = eqt := rfl
@[push_cast] theorem e_InsertAt2_cal : e_InsertAt2.cal = calOf [(76, sp_within), (75, sp_treeOKb), (60, sp_askE), (77, sp_atX), (64, sp_putLA), (63, sp_doneX)] := rfl
theorem c_InsertAt2 : CRow P0 ety0 37 sp_InA := CRow.of (E := e_InsertAt2) (mkOk (.cons c_within2 (.cons c_treeOKb2 (.cons c_l09Ask (.cons c_l03At (.cons c_l09Put (.cons c_l09Done (.nil)))))))) func37 rfl rfl rfl (by
  intro args p r outs h hq
  simp only [sp_InA] at h; split at h <;> cases h
  rename_i l p k s m t a ks
  obtain ⟨hz, hp, hx⟩ := hq _ rfl
  refine Body.intro (rs := [.tmp 6, .tmp 7]) rfl rfl rfl ?_
  apply vc_run 1000 (stop := false) rfl; simp only [push_cast, reduceIte, Nat.reduceEqDiff, Nat.reduceAdd, Nat.reduceSub, Nat.reduceLT, Int.reduceNeg, Int.reduceLE, Int.reduceLT, Int.reduceToNat, Nat.reduceLeDiff, UInt8.reduceOfNat, UInt8.reduceOfNatLT, and_self, Nat.reduceMul, decide_true, decide_false, Bool.not_true, Bool.not_false, implies_true]
  have hll := szL_len szNd l
  generalize hX : Node.mk k s m t a ks = x at *
  rw [len_4096, len_4096p, sz_one]
  refine ⟨fun h => ?_, fun h => ⟨hz, fun h2 => ?_, fun h2 => ⟨by omega, fun h3 => ?_, fun h3 => ⟨fun h4 => ?_, fun h4 => ⟨fun h5 => ?_, fun h5 => ?_⟩⟩⟩⟩⟩
  · have e : inC l p x = 2 := by
      have : askE l p = 2 := by
        unfold askE askT
        revert h
        cases decide (4096 < l.length) <;> cases decide (4096 < p.length) <;> simp
      rw [inC, this]; rfl
    rw [inR, e]; rfl
  · have h' : decide (askE l p = 0) = false := by simpa using h2
    rw [inR, inC, h']
    simp only [Bool.not_false, cond_true, h']; rfl
  all_goals
    have h' : askE l p = 0 := by simpa using h2
    have ht := (askT_0 (askE_0 h').2).2
    have eC : inC l p x = iaC l p x := by rw [inC, h']; rfl
    rw [inR, eC]
  · have e : iaC l p x = 1 := by rw [iaC, show (!treeOK [x]) = true from h3]; rfl
    rw [e]; rfl
  all_goals
    have hx1 : treeOK [x] = true := by simpa using h3
    have eI : iaC l p x = bif !decide (plC l p = 0) then 16 else doneC (insT l p x) := by rw [iaC, hx1]; rfl
  · have hp0 : p.length = 0 := by have := of_decide_eq_true h4; omega
    have e : iaC l p x = 16 := by rw [eI, plC, decide_eq_true hp0]; rfl
    rw [e]; rfl
  · have hp1 : p.length = 1 := by have := of_decide_eq_true h5; omega
    have hpl : plC l p = bif within (lastI p) 0 (l.length : Nat) then 0 else 16 := by rw [plC, decide_eq_false (show ¬ p.length = 0 by omega), decide_eq_true (show p.length < 2 by omega)]; rfl
    have hT : insT l p x = insL l (lastI p).toNat x := by rw [insT, decide_eq_true (show p.length < 2 by omega)]; rfl
    rw [gd_zero p hp1, cut_takeI, cut_dropI]
    refine ⟨by omega, fun hw => ?_, fun hw => ?_⟩
    · have e : iaC l p x = 16 := by rw [eI, hpl, show within (lastI p) 0 (l.length : Nat) = false by simpa using hw]; rfl
      rw [e]; rfl
    · have hw : within (lastI p) 0 (l.length : Nat) = true := by simpa using hw
      have hpl0 : plC l p = 0 := by rw [hpl, hw]; rfl
      have hs := insT_sz ht hx1 hpl0
      have e : iaC l p x = doneC (insT l p x) := by rw [eI, hpl0]; rfl
      rw [within, Bool.and_eq_true] at hw
      have w1 := of_decide_eq_true hw.1
      have w2 := of_decide_eq_true hw.2
      have eT : l.take (lastI p).toNat ++ x :: l.drop (lastI p).toNat = insT l p x := hT.symm
      rw [eT, e, ← doneR_eq]
      have l1 : (l.take (lastI p).toNat).length ≤ l.length := by rw [List.length_take]; omega
      have l2 : (l.drop (lastI p).toNat).length ≤ l.length := by rw [List.length_drop]; omega
      exact ⟨by omega, by omega, by unfold sizeOk; omega, by unfold sizeOk; omega, by omega, by omega, by unfold sizeOk; omega, by omega, rfl⟩
  · have hp2 : ¬ p.length < 2 := by have := of_decide_eq_false h4; have := of_decide_eq_false h5; omega
    have hpl : plC l p = bif (atP l (headP p)).isNone then 16 else bif within (lastI p) 0 ((atN l (headP p)).kids.length : Nat) then 0 else 16 := by rw [plC, decide_eq_false (show ¬ p.length = 0 by omega), decide_eq_false hp2]; rfl
    have hT : insT l p x = putP l (headP p) (setK (atN l (headP p)) (insL (atN l (headP p)).kids (lastI p).toNat x)) := by rw [insT, decide_eq_false hp2]; rfl
    have hhl : (headP p).length ≤ p.length := by rw [headP, List.length_take]; omega
    rw [last_gd (by omega), head_cut (by omega), cut_takeI, cut_dropI]
    refine ⟨by constructor <;> omega, by omega, ⟨hz, by omega⟩, fun _ => by constructor <;> omega, fun _ => by omega, fun hw => ?_, fun hw => ?_⟩
    · have e : iaC l p x = 16 := by
        rw [eI, hpl]
        cases hs : (atP l (headP p)).isNone with
        | true => rfl
        | false =>
          rw [hs, atX_atN hs] at hw
          rw [show within (lastI p) 0 ((atN l (headP p)).kids.length : Nat) = false by simpa using hw]; rfl
      rw [e]; rfl
    · cases hs : (atP l (headP p)).isNone with
      | true => rw [hs] at hw; cases hw
      | false =>
        rw [hs, atX_atN hs] at hw
        rw [atX_atN hs]
        have hw : within (lastI p) 0 ((atN l (headP p)).kids.length : Nat) = true := by simpa using hw
        have hpl0 : plC l p = 0 := by rw [hpl, hs, hw]; rfl
        have hsz := insT_sz ht hx1 hpl0
        have e : iaC l p x = doneC (insT l p x) := by rw [eI, hpl0]; rfl
        rw [within, Bool.and_eq_true] at hw
        have w1 := of_decide_eq_true hw.1
        have w2 := of_decide_eq_true hw.2
        have hkl := szL_len szNd (atN l (headP p)).kids
        have hke := szNd_eq (atN l (headP p))
        have hle := atN_le _ _ hs
        have l1 : ((atN l (headP p)).kids.take (lastI p).toNat).length ≤ (atN l (headP p)).kids.length := by rw [List.length_take]; omega
        have l2 : ((atN l (headP p)).kids.drop (lastI p).toNat).length ≤ (atN l (headP p)).kids.length := by rw [List.length_drop]; omega
        have eT : putL l (headP p) [Node.mk (atN l (headP p)).kind (atN l (headP p)).space (atN l (headP p)).name (atN l (headP p)).text (atN l (headP p)).attrs ((atN l (headP p)).kids.take (lastI p).toNat ++ x :: (atN l (headP p)).kids.drop (lastI p).toNat)] = insT l p x := by
          rw [putL_put _ l _ hs, hT, setK_eq]; rfl
        rw [eT, e, ← doneR_eq]
        exact ⟨by constructor <;> omega, by omega, by omega, by unfold sizeOk; omega, by unfold sizeOk; omega, by omega, by unfold sizeOk; omega, by constructor <;> omega, by omega, ⟨hz, by omega, rfl⟩, by omega, rfl⟩)
end Go.Ab
