/- Proved: the law FnExactInsertAt returns true for every input, and its arguments read behind the call as they read before. No condition. -/
import Derived.Test.YtondigjbmieekaaFnIl
import Derived.Test.YtondigjbmieekaaEng4
import Derived.Test.YtondigjbmieekaaRows
import Derived.HandedShaped
set_option linter.all false
set_option linter.unusedSimpArgs false
set_option linter.unusedVariables false
set_option linter.unusedSectionVars false
namespace Go.Ab
open Go Go.Proofs.Try Go.ChangeShapes Go.WideShapes Go.ChangeAt Go.RowKit
theorem own0 : ownKnob P0.godebug = none := by kernel_rfl
theorem laidOut0 : laidOutB P0 = true := by kernel_rfl
mutual
theorem nd_of : ∀ x : Node, fitNo x → fitNd x
  | .mk k s n t a ks => fun h => by
    rw [fitNo] at h; rw [fitNd]
    exact ⟨h.1, h.2.1, h.2.2.1, h.2.2.2.1, nds_of ks h.2.2.2.2⟩
theorem nds_of : ∀ l : List Node, fitNos l → fitNds l
  | [] => fun _ => trivial
  | x :: r => fun h => by
    rw [fitNos] at h; rw [fitNds]
    exact ⟨nd_of x h.1, nds_of r h.2⟩
end
theorem fitNds_of {l : List Node} (h1 : l.length ≤ mxl) (h2 : ∀ x ∈ l, fitNo x) : fitL fitNd l := ⟨h1, fun x hx => nd_of x (h2 x hx)⟩
end Go.Ab
namespace Go.Proofs.Ytondigjbmieekaa
open Go Go.Ab Go.ChangeShapes Go.WideShapes Go.ChangeAt Go.RowKit
set_option maxRecDepth 100000 in
theorem insertAt_lifted (os : Os) (started : os.Started) (H : Type) (enc : TypeId × Value → H) :
    ReturnsInHanded {} Try.checked os 7 .any (Rows.fnExactInsertAtSpec.pre6 enc Try.prog Try.f7 Rows.fnExactInsertAtRow.domain false) (Rows.fnExactInsertAtSpec.post enc Try.prog Try.f7 false true false false) := by
  refine returnsInHanded_of_change_shaped (C := Try.checked) own0 started (by kernel_rfl) Try.func7
    (ChangeSpec.witness6 (enc := enc) (C := Try.checked) false ⟨#[], #[.slice none 0 0, .slice none 0 0, .agg #[.int .i64 0, .int .i64 0, .string ⟨#[]⟩, .string ⟨#[]⟩, .slice none 0 0, .slice none 0 0]], []⟩ 8 (by kernel_rfl) (by kernel_rfl) (by kernel_rfl) (by kernel_rfl)) ?_
  intro W base args ds gs before hval0 hW hcnd _ hsh _
  have hval : ∀ (j : Nat) t v, Try.f7.params[j]? = some t → args[j]? = some v → Value.okWide Try.prog W .any base t v := hval0
  have hW1 := hW
  obtain ⟨p, q, hA0, hV, _⟩ := hW1
  have hA : DataW.TrodAll enc Try.prog W 0 (fun _ => true) true Try.f7.params.toList args.toList ds p := hA0
  rw [Try.params7] at hA hval
  obtain ⟨v0, v1, v2, d0, d1, d2, p0, p1, p2, rfl, rfl, rfl, h0, h1, h2⟩ := trodAll_three hA
  obtain ⟨rfl, rfl⟩ := trodVars_none hV
  have hnot0 : ∀ cs, v0 ≠ .agg cs := by
    intro cs hc
    obtain ⟨a, len, cap, he⟩ := okWide_slice Try.underlying36 (hval 0 _ v0 rfl rfl)
    rw [hc] at he; cases he
  obtain ⟨x0, hlen0, hf0, hx0⟩ := entry_sl (ety := ety0) (k := .node) (e := 64) hnot0 (fun n => (carF_node2 Try.underlying64 (by simp) (by kernel_rfl) Try.underlying3 Try.underlying9 (slF_all Try.underlying62 (by kernel_rfl) (by decide) (carF_attr Try.underlying50 (by simp) (by kernel_rfl) Try.underlying9 (by kernel_rfl))) Try.underlying36 (by kernel_rfl) (by kernel_rfl) (by kernel_rfl) (by kernel_rfl) n).2) h0
  have hnot1 : ∀ cs, v1 ≠ .agg cs := by
    intro cs hc
    obtain ⟨a, len, cap, he⟩ := okWide_slice Try.underlying48 (hval 1 _ v1 rfl rfl)
    rw [hc] at he; cases he
  obtain ⟨x1, hlen1, hf1, hx1⟩ := entry_sl (ety := ety0) (k := .int) (e := 3) hnot1 (slF_all Try.underlying48 (by kernel_rfl) (by decide) (carF_int Try.underlying3)) h1
  obtain ⟨x2, hf2, hx2⟩ := entry_st (ety := ety0) (k := .node) Try.underlying64 (fun n => (carF_node2 Try.underlying64 (by simp) (by kernel_rfl) Try.underlying3 Try.underlying9 (slF_all Try.underlying62 (by kernel_rfl) (by decide) (carF_attr Try.underlying50 (by simp) (by kernel_rfl) Try.underlying9 (by kernel_rfl))) Try.underlying36 (by kernel_rfl) (by kernel_rfl) (by kernel_rfl) (by kernel_rfl) n).1) (hval 2 _ v2 rfl rfl) h2
  obtain ⟨n0, n1, n2, n3, n4, n5⟩ := x2
  have hrel : RelA (ctx0 ety0 W (allR W)) (.agg [.dat ⟨.node, x0⟩, .dat ⟨.int, x1⟩, .agg (elemCells .node (.mk n0 n1 n2 n3 n4 n5))]) (.agg #[v0, v1, v2]) (fun _ => False) := .pl _ _ _ (.agg _ _ rfl fun j c u hj hu => by
    match j, hj, hu with
    | 0, hj, hu => cases hj; cases hu; exact hx0
    | 1, hj, hu => cases hj; cases hu; exact hx1
    | 2, hj, hu => cases hj; cases hu; exact hx2) (fun _ h => h)
  refine (c_lawInsertAt.ok _ _ _ _ (sp_lawInsertAt_run x0 x1 n0 n1 n2 n3 n4 n5) (fun q hq => by cases hq; exact ⟨fitNds_of hlen0 hf0, hlen1, nd_of _ hf2⟩) W (allR W) #[v0, v1, v2] (fun _ => False) hrel (fun _ h => h) (fun _ h => h.elim) (fun _ h => h.elim) ⟨W, hsh, fun b hb => ⟨hb, rfl⟩⟩).mono fun e W' h => ?_
  obtain ⟨v, R', F', rfl, _, _, _, hr, _, _, hk⟩ := h
  obtain ⟨F'', hr, _⟩ := hr.head
  have hv : v = .bool true := by
    cases hr with
    | pl _ _ _ h _ => exact h.bool_inv
  subst hv
  have hrd : ∀ t ∈ Try.f7.params.toList, Try.prog.readableRec t = true ∧ t < Try.prog.types.size := by
    rw [Try.params7]
    intro t ht
    have ht' : t = 36 ∨ t = 48 ∨ t = 64 := by simpa using ht
    rcases ht' with rfl | rfl | rfl <;> exact ⟨by kernel_rfl, of_decide_eq_true (by kernel_rfl)⟩
  exact ⟨_, rfl, law_post laidOut0 rfl rfl Try.underlying4 hrd rfl hW hk⟩
theorem insertAt_holds : Rows.FnExactInsertAtSaid :=
  OpenClaim.holds_of_wide 7 Try.f7 rfl rfl rfl rfl rfl rfl rfl ⟨rfl, rfl, rfl, rfl, rfl⟩ rfl rfl rfl rfl rfl (by kernel_rfl) Try.func7 (by kernel_rfl)
    (of_decide_eq_true (by kernel_rfl)) (by unfold Func.isWrapper; first | (rw [if_pos (by decide +kernel)]; kernel_rfl) | (rw [if_neg (by decide +kernel)]; exact ⟨rfl, rfl⟩))
    (fun os started H enc _ => insertAt_lifted os started H enc)
#print axioms insertAt_holds
end Go.Proofs.Ytondigjbmieekaa
