/- Proved: the law FnExactConfigText returns true for every input, and its argument reads behind the call as it read before. No condition. -/
import Derived.Test.YtmofbeofijlofaaFnG
import Derived.Test.YtmofbeofijlofaaEng3
import Derived.Test.YtmofbeofijlofaaRows
set_option linter.all false
set_option linter.unusedSimpArgs false
set_option linter.unusedVariables false
set_option linter.unusedSectionVars false
namespace Go.Ab
open Go Go.Proofs.Try Go.ChangeShapes Go.WideShapes Go.ChangeAt Go.RowKit
theorem own0 : ownKnob P0.godebug = none := by kernel_rfl
theorem laidOut0 : laidOutB P0 = true := by kernel_rfl
end Go.Ab
namespace Go.Proofs.Ytmofbeofijlofaa
open Go Go.Ab Go.ChangeShapes Go.WideShapes Go.ChangeAt Go.RowKit
set_option maxRecDepth 100000 in
theorem configText_lifted (os : Os) (started : os.Started) (H : Type) (enc : TypeId × Value → H) :
    ReturnsInHanded {} Try.checked os 4 .any (Rows.fnExactConfigTextSpec.pre6 enc Try.prog Try.f4 Rows.fnExactConfigTextRow.domain false) (Rows.fnExactConfigTextSpec.post enc Try.prog Try.f4 false true false false) := by
  refine returnsInHanded_of_change (C := Try.checked) own0 started (by kernel_rfl) Try.func4
    (ChangeSpec.witness6 (enc := enc) (C := Try.checked) false ⟨#[], #[.agg #[.bool false, .bool false, .slice none 0 0, .slice none 0 0, .slice none 0 0, .slice none 0 0, .slice none 0 0, .bool false, .bool false]], []⟩ 8 (by kernel_rfl) (by kernel_rfl) (by kernel_rfl) (by kernel_rfl)) ?_
  intro W base args ds gs before hval0 hW hcnd _
  have hval : ∀ (j : Nat) t v, Try.f4.params[j]? = some t → args[j]? = some v → Value.okWide Try.prog W .any base t v := hval0
  have hW1 := hW
  obtain ⟨p, q, hA0, hV, _⟩ := hW1
  have hA : DataW.TrodAll enc Try.prog W 0 (fun _ => true) true Try.f4.params.toList args.toList ds p := hA0
  rw [Try.params4] at hA hval
  obtain ⟨v0, d0, rfl, rfl, h0⟩ := trodAll_one hA
  obtain ⟨rfl, rfl⟩ := trodVars_none hV
  obtain ⟨x, hfit0, hx⟩ := entry_st (ety := ety0) (k := .cfg) Try.underlying33 (carF_cfg Try.underlying33 (by simp) (by kernel_rfl) Try.underlying4 (slF_all Try.underlying30 (by kernel_rfl) (by decide) (carF_rule Try.underlying101 (by simp) (by kernel_rfl) Try.underlying3 Try.underlying9 (slF_all Try.underlying31 (by kernel_rfl) (by decide) (carF_str Try.underlying9)) (by kernel_rfl) (by kernel_rfl) (by kernel_rfl))) (slF_all Try.underlying31 (by kernel_rfl) (by decide) (carF_str Try.underlying9)) (by kernel_rfl) (by kernel_rfl) (by kernel_rfl)) (hval 0 _ v0 rfl rfl) h0
  have hss : ∀ {l : List Str}, fitSS l → fitL fitStr l := fun h => ⟨h.1, h.2⟩
  have hrr : ∀ {l : List Rule}, fitRR l → fitL fitRule l := fun h => ⟨h.1, fun r hr => ⟨(h.2 r hr).2.1, hss (h.2 r hr).2.2⟩⟩
  have hfit : fitCfg x := ⟨hrr hfit0.1, hrr hfit0.2.1, hrr hfit0.2.2.1, hss hfit0.2.2.2.1, hss hfit0.2.2.2.2⟩
  have hrel : RelA (ctx0 ety0 W (allR W)) (.agg [.agg (elemCells .cfg x)]) (.agg #[v0]) (fun _ => False) := .pl _ _ _ (.agg _ _ rfl fun j c u hj hu => by
    match j, hj, hu with
    | 0, hj, hu => cases hj; cases hu; exact hx) (fun _ h => h)
  refine (c_lawConfigText.ok _ _ _ _ (sp_lawConfigText_run x.hasAllow x.hasAttrs x.allow x.remove x.unwrap x.attrs x.drop x.comments x.data) (fun q hq => by cases hq; exact hfit) W (allR W) #[v0] (fun _ => False) hrel (fun _ h => h) (fun _ h => h.elim) (fun _ h => h.elim)).mono fun e W' h => ?_
  obtain ⟨v, R', F', rfl, _, _, _, hr, _, _, hk⟩ := h
  obtain ⟨F'', hr, _⟩ := hr.head
  have hv : v = .bool true := by
    cases hr with
    | pl _ _ _ h _ => exact h.bool_inv
  subst hv
  have hrd : ∀ t ∈ Try.f4.params.toList, Try.prog.readableRec t = true ∧ t < Try.prog.types.size := by
    rw [Try.params4]
    intro t ht
    have ht' : t = 33 := by simpa using ht
    subst ht'
    exact ⟨by kernel_rfl, of_decide_eq_true (by kernel_rfl)⟩
  exact ⟨_, rfl, law_post laidOut0 rfl rfl Try.underlying4 hrd rfl hW hk⟩
theorem configText_holds : Rows.FnExactConfigTextSaid :=
  OpenClaim.holds_of_wide 4 Try.f4 rfl rfl rfl rfl rfl rfl rfl ⟨rfl, rfl, rfl, rfl, rfl⟩ rfl rfl rfl rfl rfl (by kernel_rfl) Try.func4 (by kernel_rfl)
    (of_decide_eq_true (by kernel_rfl)) (by unfold Func.isWrapper; first | (rw [if_pos (by decide +kernel)]; kernel_rfl) | (rw [if_neg (by decide +kernel)]; exact ⟨rfl, rfl⟩))
    (fun os started H enc _ => configText_lifted os started H enc)
#print axioms configText_holds
end Go.Proofs.Ytmofbeofijlofaa
