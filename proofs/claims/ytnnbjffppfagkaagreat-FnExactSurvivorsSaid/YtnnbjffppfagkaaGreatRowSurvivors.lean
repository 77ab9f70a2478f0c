/- Proved: the law FnExactSurvivors returns true for every input, and its arguments read behind the call as they read before. No condition. -/
import Derived.Test.YtnnbjffppfagkaaGreatFnLv
import Derived.Test.YtnnbjffppfagkaaGreatEng4
import Derived.Test.YtnnbjffppfagkaaGreatRows
import Derived.HandedShaped
set_option linter.all false
set_option linter.unusedSimpArgs false
set_option linter.unusedVariables false
set_option linter.unusedSectionVars false
namespace Go.Ab
open Go Go.Proofs.Tryz Go.ChangeShapes Go.WideShapes Go.ChangeAt Go.RowKit
theorem own0 : ownKnob P0.godebug = none := by kernel_rfl
theorem laidOut0 : laidOutB P0 = true := by kernel_rfl
mutual
theorem nd_of : ∀ x : Node, fitNo x → fitNd x
  | .mk k s n t a ks => fun h => by
    rw [fitNo] at h; rw [fitNd]
    exact ⟨h.1, h.2.1, h.2.2.1, h.2.2.2.1, nds_of ks h.2.2.2.2⟩
theorem nds_of : ∀ l : List Node, fitNos l → fitNds l
  | [] => fun _ => trivial
  | x :: r => fun h => by
    rw [fitNos] at h; rw [fitNds]
    exact ⟨nd_of x h.1, nds_of r h.2⟩
end
theorem fitNds_of {l : List Node} (h1 : l.length ≤ mxl) (h2 : ∀ x ∈ l, fitNo x) : fitL fitNd l := ⟨h1, fun x hx => nd_of x (h2 x hx)⟩
theorem fitSt_of {l : List Str} (h : fitSS l) : fitL fitStr l := ⟨h.1, h.2⟩
theorem fitRu_of {l : List Rule} (h : fitRR l) : fitL fitRule l := ⟨h.1, fun r hr => ⟨(h.2 r hr).2.1, fitSt_of (h.2 r hr).2.2⟩⟩
theorem fitCfg_of {c : Cfg} (h : fitCf c) : fitCfg c := ⟨fitRu_of h.1, fitRu_of h.2.1, fitRu_of h.2.2.1, fitSt_of h.2.2.2.1, fitSt_of h.2.2.2.2⟩
theorem fitCfgs_of {l : List Cfg} (h : l.length ≤ mxl ∧ ∀ y ∈ l, fitCf y) : fitL fitCfg l := ⟨h.1, fun c hc => fitCfg_of (h.2 c hc)⟩
end Go.Ab
namespace Go.Proofs.YtnnbjffppfagkaaGreat
open Go Go.Ab Go.ChangeShapes Go.WideShapes Go.ChangeAt Go.RowKit
set_option maxRecDepth 100000 in
theorem survivors_lifted (os : Os) (started : os.Started) (H : Type) (enc : TypeId × Value → H) :
    ReturnsInHanded {} Tryz.checked os 7 .any (Rows.fnExactSurvivorsSpec.pre6 enc Tryz.prog Tryz.f7 Rows.fnExactSurvivorsRow.domain false) (Rows.fnExactSurvivorsSpec.post enc Tryz.prog Tryz.f7 false true false false) := by
  refine returnsInHanded_of_change_shaped (C := Tryz.checked) own0 started (by kernel_rfl) Tryz.func7
    (ChangeSpec.witness6 (enc := enc) (C := Tryz.checked) false ⟨#[], #[.slice none 0 0, .agg #[.bool false, .bool false, .slice none 0 0, .slice none 0 0, .slice none 0 0, .slice none 0 0, .slice none 0 0, .bool false, .bool false]], []⟩ 8 (by kernel_rfl) (by kernel_rfl) (by kernel_rfl) (by kernel_rfl)) ?_
  intro W base args ds gs before hval0 hW hcnd _ hsh _
  have hval : ∀ (j : Nat) t v, Tryz.f7.params[j]? = some t → args[j]? = some v → Value.okWide Tryz.prog W .any base t v := hval0
  have hW1 := hW
  obtain ⟨p, q, hA0, hV, _⟩ := hW1
  have hA : DataW.TrodAll enc Tryz.prog W 0 (fun _ => true) true Tryz.f7.params.toList args.toList ds p := hA0
  rw [Tryz.params7] at hA hval
  obtain ⟨v0, v1, d0, d1, p0, p1, rfl, rfl, rfl, h0, h1⟩ := trodAll_two hA
  obtain ⟨rfl, rfl⟩ := trodVars_none hV
  have hnot0 : ∀ cs, v0 ≠ .agg cs := by
    intro cs hc
    obtain ⟨a, len, cap, he⟩ := okWide_slice Tryz.underlying22 (hval 0 _ v0 rfl rfl)
    rw [hc] at he; cases he
  obtain ⟨x0, hlen0, hf0, hx0⟩ := entry_sl (ety := ety0) (k := .node) (e := 53) hnot0 (fun n => (carF_node2 Tryz.underlying53 (by simp) (by kernel_rfl) Tryz.underlying3 Tryz.underlying9 (slF_all Tryz.underlying51 (by kernel_rfl) (by decide) (carF_attr Tryz.underlying101 (by simp) (by kernel_rfl) Tryz.underlying9 (by kernel_rfl))) Tryz.underlying22 (by kernel_rfl) (by kernel_rfl) (by kernel_rfl) (by kernel_rfl) n).2) h0
  obtain ⟨x1, hf1, hx1⟩ := entry_st (ety := ety0) (k := .cfg) Tryz.underlying26 (carF_cfg Tryz.underlying26 (by simp) (by kernel_rfl) Tryz.underlying4 (slF_all Tryz.underlying23 (by kernel_rfl) (by decide) (carF_rule Tryz.underlying75 (by simp) (by kernel_rfl) Tryz.underlying3 Tryz.underlying9 (slF_all Tryz.underlying24 (by kernel_rfl) (by decide) (carF_str Tryz.underlying9)) (by kernel_rfl) (by kernel_rfl) (by kernel_rfl))) (slF_all Tryz.underlying24 (by kernel_rfl) (by decide) (carF_str Tryz.underlying9)) (by kernel_rfl) (by kernel_rfl) (by kernel_rfl)) (hval 1 _ v1 rfl rfl) h1
  have hrel : RelA (ctx0 ety0 W (allR W)) (.agg [.dat ⟨.node, x0⟩, .agg (elemCells .cfg x1)]) (.agg #[v0, v1]) (fun _ => False) := .pl _ _ _ (.agg _ _ rfl fun j c u hj hu => by
    match j, hj, hu with
    | 0, hj, hu => cases hj; cases hu; exact hx0
    | 1, hj, hu => cases hj; cases hu; exact hx1) (fun _ h => h)
  refine (c_lawSurvivors.ok _ _ _ _ (sp_lawSurvivors_run x0 x1.hasAllow x1.hasAttrs x1.allow x1.remove x1.unwrap x1.attrs x1.drop x1.comments x1.data) (fun q hq => by cases hq; exact ⟨fitNds_of hlen0 hf0, fitCfg_of hf1⟩) W (allR W) #[v0, v1] (fun _ => False) hrel (fun _ h => h) (fun _ h => h.elim) (fun _ h => h.elim) (gi_start ⟨hsh, trivial⟩)).mono fun e W' h => ?_
  obtain ⟨v, R', F', rfl, _, _, _, hr, _, _, hk⟩ := h
  obtain ⟨F'', hr, _⟩ := hr.head
  have hv : v = .bool true := by
    cases hr with
    | pl _ _ _ h _ => exact h.bool_inv
  subst hv
  have hrd : ∀ t ∈ Tryz.f7.params.toList, Tryz.prog.readableRec t = true ∧ t < Tryz.prog.types.size := by
    rw [Tryz.params7]
    intro t ht
    have ht' : t = 22 ∨ t = 26 := by simpa using ht
    rcases ht' with rfl | rfl <;> exact ⟨by kernel_rfl, of_decide_eq_true (by kernel_rfl)⟩
  exact ⟨_, rfl, law_post laidOut0 rfl rfl Tryz.underlying4 hrd rfl hW hk⟩
theorem survivors_holds : Rows.FnExactSurvivorsSaid :=
  OpenClaim.holds_of_wide 7 Tryz.f7 rfl rfl rfl rfl rfl rfl rfl ⟨rfl, rfl, rfl, rfl, rfl⟩ rfl rfl rfl rfl rfl (by kernel_rfl) Tryz.func7 (by kernel_rfl)
    (of_decide_eq_true (by kernel_rfl)) (by unfold Func.isWrapper; first | (rw [if_pos (by decide +kernel)]; kernel_rfl) | (rw [if_neg (by decide +kernel)]; exact ⟨rfl, rfl⟩))
    (fun os started H enc _ => survivors_lifted os started H enc)
#print axioms survivors_holds
end Go.Proofs.YtnnbjffppfagkaaGreat
