/- Proved: the law FnExactHouseOK returns true for every input, and its argument reads behind the call as it read before. No condition. -/
import Derived.Test.YthfcgefegbfklaaGreatFnV
import Derived.Test.YthfcgefegbfklaaGreatEng3
import Derived.Test.YthfcgefegbfklaaGreatRows
set_option linter.all false
set_option linter.unusedSimpArgs false
set_option linter.unusedVariables false
set_option linter.unusedSectionVars false
namespace Go.Ab
open Go Go.Proofs.Tryz Go.ChangeShapes Go.WideShapes Go.ChangeAt Go.RowKit
theorem own0 : ownKnob P0.godebug = none := by kernel_rfl
mutual
theorem nd_of : ∀ x : Node, fitNo x → fitNd x
  | .mk k s n t a ks => fun h => by
    rw [fitNo] at h; rw [fitNd]
    exact ⟨h.1, h.2.1, h.2.2.1, h.2.2.2.1, nds_of ks h.2.2.2.2⟩
theorem nds_of : ∀ l : List Node, fitNos l → fitNds l
  | [] => fun _ => trivial
  | x :: r => fun h => by
    rw [fitNos] at h; rw [fitNds]
    exact ⟨nd_of x h.1, nds_of r h.2⟩
end
theorem laidOut0 : laidOutB P0 = true := by kernel_rfl
end Go.Ab
namespace Go.Proofs.YthfcgefegbfklaaGreat
open Go Go.Ab Go.ChangeShapes Go.WideShapes Go.ChangeAt Go.RowKit
set_option maxRecDepth 100000 in
theorem houseOK_lifted (os : Os) (started : os.Started) (H : Type) (enc : TypeId × Value → H) :
    ReturnsInHanded {} Tryz.checked os 3 .any (Rows.fnExactHouseOKSpec.pre6 enc Tryz.prog Tryz.f3 Rows.fnExactHouseOKRow.domain false) (Rows.fnExactHouseOKSpec.post enc Tryz.prog Tryz.f3 false true false false) := by
  refine returnsInHanded_of_change (C := Tryz.checked) own0 started (by kernel_rfl) Tryz.func3
    (ChangeSpec.witness6 (enc := enc) (C := Tryz.checked) false ⟨#[], #[.agg #[.slice none 0 0, .slice none 0 0]], []⟩ 8 (by kernel_rfl) (by kernel_rfl) (by kernel_rfl) (by kernel_rfl)) ?_
  intro W base args ds gs before hval0 hW hcnd _
  have hval : ∀ (j : Nat) t v, Tryz.f3.params[j]? = some t → args[j]? = some v → Value.okWide Tryz.prog W .any base t v := hval0
  have hW1 := hW
  obtain ⟨p, q, hA0, hV, _⟩ := hW1
  have hA : DataW.TrodAll enc Tryz.prog W 0 (fun _ => true) true Tryz.f3.params.toList args.toList ds p := hA0
  rw [Tryz.params3] at hA hval
  obtain ⟨v0, d0, rfl, rfl, h0⟩ := trodAll_one hA
  obtain ⟨rfl, rfl⟩ := trodVars_none hV
  obtain ⟨x, hfit0, hx⟩ := entry_cells (ety := ety0) (cells := houseCells) (fit := fitHo) Tryz.underlying25 (fun _ => rfl) (house_f Tryz.underlying25 (by simp) (by kernel_rfl) (slF_all Tryz.underlying22 (by kernel_rfl) (by decide) (carF_doc Tryz.underlying93 (by simp) (by kernel_rfl) Tryz.underlying9 (fun n => (carF_node2 Tryz.underlying75 (by simp) (by kernel_rfl) Tryz.underlying3 Tryz.underlying9 (slF_all Tryz.underlying73 (by kernel_rfl) (by decide) (carF_attr Tryz.underlying135 (by simp) (by kernel_rfl) Tryz.underlying9 (by kernel_rfl))) Tryz.underlying36 (by kernel_rfl) (by kernel_rfl) (by kernel_rfl) (by kernel_rfl) n).2) (by kernel_rfl) (by kernel_rfl))) (slF_all Tryz.underlying23 (by kernel_rfl) (by decide) (carF_cfg Tryz.underlying40 (by simp) (by kernel_rfl) Tryz.underlying4 (slF_all Tryz.underlying37 (by kernel_rfl) (by decide) (carF_rule Tryz.underlying108 (by simp) (by kernel_rfl) Tryz.underlying3 Tryz.underlying9 (slF_all Tryz.underlying38 (by kernel_rfl) (by decide) (carF_str Tryz.underlying9)) (by kernel_rfl) (by kernel_rfl) (by kernel_rfl))) (slF_all Tryz.underlying38 (by kernel_rfl) (by decide) (carF_str Tryz.underlying9)) (by kernel_rfl) (by kernel_rfl) (by kernel_rfl))) (by kernel_rfl) (by kernel_rfl)) (hval 0 _ v0 rfl rfl) h0
  have hss : ∀ {l : List Str}, fitSS l → fitL fitStr l := fun h => ⟨h.1, h.2⟩
  have hrr : ∀ {l : List Rule}, fitRR l → fitL fitRule l := fun h => ⟨h.1, fun r hr => ⟨(h.2 r hr).2.1, hss (h.2 r hr).2.2⟩⟩
  have hcf : ∀ {c : Cfg}, fitCf c → fitCfg c := fun h => ⟨hrr h.1, hrr h.2.1, hrr h.2.2.1, hss h.2.2.2.1, hss h.2.2.2.2⟩
  have hfit : fitL fitDo x.1 ∧ fitL fitCfg x.2 := ⟨⟨hfit0.1.1, fun d hd => ⟨(hfit0.1.2 d hd).1, (hfit0.1.2 d hd).2.1, fun y hy => nd_of y ((hfit0.1.2 d hd).2.2 y hy)⟩⟩, hfit0.2.1, fun c hc => hcf (hfit0.2.2 c hc)⟩
  have hrel : RelA (ctx0 ety0 W (allR W)) (.agg [.agg (houseCells x)]) (.agg #[v0]) (fun _ => False) := .pl _ _ _ (.agg _ _ rfl fun j c u hj hu => by
    match j, hj, hu with
    | 0, hj, hu => cases hj; cases hu; exact hx) (fun _ h => h)
  refine (c_lawHouseOK.ok _ _ _ _ (sp_lawHouseOK_run x.1 x.2) (fun q hq => by cases hq; exact hfit) W (allR W) #[v0] (fun _ => False) hrel (fun _ h => h) (fun _ h => h.elim) (fun _ h => h.elim)).mono fun e W' h => ?_
  obtain ⟨v, R', F', rfl, _, _, _, hr, _, _, hk⟩ := h
  obtain ⟨F'', hr, _⟩ := hr.head
  have hv : v = .bool true := by
    cases hr with
    | pl _ _ _ h _ => exact h.bool_inv
  subst hv
  have hrd : ∀ t ∈ Tryz.f3.params.toList, Tryz.prog.readableRec t = true ∧ t < Tryz.prog.types.size := by
    rw [Tryz.params3]
    intro t ht
    have ht' : t = 25 := by simpa using ht
    subst ht'
    exact ⟨by kernel_rfl, of_decide_eq_true (by kernel_rfl)⟩
  exact ⟨_, rfl, law_post laidOut0 rfl rfl Tryz.underlying4 hrd rfl hW hk⟩
theorem houseOK_holds : Rows.FnExactHouseOKSaid :=
  OpenClaim.holds_of_wide 3 Tryz.f3 rfl rfl rfl rfl rfl rfl rfl ⟨rfl, rfl, rfl, rfl, rfl⟩ rfl rfl rfl rfl rfl (by kernel_rfl) Tryz.func3 (by kernel_rfl)
    (of_decide_eq_true (by kernel_rfl)) (by unfold Func.isWrapper; first | (rw [if_pos (by decide +kernel)]; kernel_rfl) | (rw [if_neg (by decide +kernel)]; exact ⟨rfl, rfl⟩))
    (fun os started H enc _ => houseOK_lifted os started H enc)
#print axioms houseOK_holds
end Go.Proofs.YthfcgefegbfklaaGreat
