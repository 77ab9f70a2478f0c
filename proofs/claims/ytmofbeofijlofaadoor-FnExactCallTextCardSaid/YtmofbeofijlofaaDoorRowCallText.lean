/- Proved: the law FnExactCallText returns true for every input, and its argument reads behind the call as it read before; the card is tied. No condition. -/
import Derived.Test.YtmofbeofijlofaaDoorFnQ
import Derived.Test.YtmofbeofijlofaaDoorEng3
import Derived.Test.YtmofbeofijlofaaDoorRows
import Derived.Test.YtmofbeofijlofaaDoorCards
import Derived.Test.YtmofbeofijlofaaDoorTie
import Derived.LaidMore
import Derived.Lay
import Derived.SevenTiedAt
set_option linter.all false
set_option linter.unusedSimpArgs false
set_option linter.unusedVariables false
set_option linter.unusedSectionVars false
namespace Go.Ab
open Go Go.Proofs.Tryd Go.ChangeShapes Go.WideShapes Go.ChangeAt Go.RowKit
theorem own0 : ownKnob P0.godebug = none := by kernel_rfl
theorem laidOut0 : laidOutB P0 = true := by kernel_rfl
end Go.Ab
namespace Go.Proofs.YtmofbeofijlofaaDoor
open Go Go.Ab Go.ChangeShapes Go.WideShapes Go.ChangeAt Go.RowKit
abbrev laid0 : List (String × DataW Unit) := Rows.fnExactCallTextRow.laid
set_option maxRecDepth 100000 in
theorem callText_lifted (os : Os) (started : os.Started) (H : Type) (enc : TypeId × Value → H) :
    ReturnsInHanded {} Tryd.checked os 4 .any (fun w args => (Rows.fnExactCallTextSpec.pre enc Tryd.prog Tryd.f4 [] false w args ∧ laidMetH Tryd.prog laid0 w) ∧ sizedMet enc Tryd.prog Tryd.f4 (OpenSpec.ofChange Rows.fnExactCallTextSpec) false w args) (Rows.fnExactCallTextSpec.post enc Tryd.prog Tryd.f4 false true false false) := by
  refine returnsInHanded_of_change_and (C := Tryd.checked) (X := fun w _ => laidMetH Tryd.prog laid0 w) (fun _ _ _ hh h => h.of_heap hh) own0 started (by kernel_rfl) Tryd.func4
    (ChangeSpec.witness_shaped (enc := enc) (C := Tryd.checked) (os := os) (X := fun w _ => laidMetH Tryd.prog laid0 w) false (World.laidAll Tryd.prog os laid0) #[.agg #[.int .i64 0, .int .i64 0, .int .i64 0, .slice none 0 0, .string ⟨#[]⟩, .string ⟨#[]⟩]] 8 (World.laidAll_os _ _ _)
      (World.shaped_of_ZipB (by kernel_rfl) (by kernel_rfl)) (by kernel_rfl) (by kernel_rfl) (by kernel_rfl)
      (by rw [MakeChecks.laidMetH_plain _ _ _ (by kernel_rfl)]; exact laidMet_laidAll _ (by kernel_rfl) (by kernel_rfl))) ?_
  intro W base args ds gs before hval0 hW hcnd _ _ _
  have hval : ∀ (j : Nat) t v, Tryd.f4.params[j]? = some t → args[j]? = some v → Value.okWide Tryd.prog W .any base t v := hval0
  have hW1 := hW
  obtain ⟨p, q, hA0, hV, _⟩ := hW1
  have hA : DataW.TrodAll enc Tryd.prog W 0 (fun _ => true) true Tryd.f4.params.toList args.toList ds p := hA0
  rw [Tryd.params4] at hA hval
  obtain ⟨v0, d0, rfl, rfl, h0⟩ := trodAll_one hA
  obtain ⟨rfl, rfl⟩ := trodVars_none hV
  obtain ⟨x, hfit, hx⟩ := entry_st (ety := ety0) (k := .call) Tryd.underlying29 (carF_call Tryd.underlying29 (by simp) (by kernel_rfl) Tryd.underlying3 Tryd.underlying9 (slF_all Tryd.underlying22 (by kernel_rfl) (by decide) (carF_int Tryd.underlying3)) (by kernel_rfl) (by kernel_rfl) (by kernel_rfl)) (hval 0 _ v0 rfl rfl) h0
  have hrel : RelA (ctx0 ety0 W (allR W)) (.agg [.agg (elemCells .call x)]) (.agg #[v0]) (fun _ => False) := .pl _ _ _ (.agg _ _ rfl fun j c u hj hu => by
    match j, hj, hu with
    | 0, hj, hu => cases hj; cases hu; exact hx) (fun _ h => h)
  refine (c_lawCallText.ok _ _ _ _ (sp_lawCallText_run x.kind x.doc x.config x.path x.name x.text) (fun q hq => by cases hq; exact ⟨hfit.1.1, hfit.2.1, hfit.2.2⟩) W (allR W) #[v0] (fun _ => False) hrel (fun _ h => h) (fun _ h => h.elim) (fun _ h => h.elim)).mono fun e W' h => ?_
  obtain ⟨v, R', F', rfl, _, _, _, hr, _, _, hk⟩ := h
  obtain ⟨F'', hr, _⟩ := hr.head
  have hv : v = .bool true := by
    cases hr with
    | pl _ _ _ h _ => exact h.bool_inv
  subst hv
  have hrd : ∀ t ∈ Tryd.f4.params.toList, Tryd.prog.readableRec t = true ∧ t < Tryd.prog.types.size := by
    rw [Tryd.params4]
    intro t ht
    have ht' : t = 29 := by simpa using ht
    subst ht'
    exact ⟨by kernel_rfl, of_decide_eq_true (by kernel_rfl)⟩
  exact ⟨_, rfl, law_post laidOut0 rfl rfl Tryd.underlying4 hrd rfl hW hk⟩
theorem callText_row : Rows.FnExactCallTextSaid :=
  OpenClaim.holds_of_wide 4 Tryd.f4 rfl rfl rfl rfl rfl rfl rfl ⟨rfl, rfl, rfl, rfl, rfl⟩ rfl rfl rfl rfl rfl (by kernel_rfl) Tryd.func4 (by kernel_rfl)
    (of_decide_eq_true (by kernel_rfl)) (by unfold Func.isWrapper; first | (rw [if_pos (by decide +kernel)]; kernel_rfl) | (rw [if_neg (by decide +kernel)]; exact ⟨rfl, rfl⟩))
    (fun os started H enc _ => callText_lifted os started H enc)
theorem callText_holds : Rows.FnExactCallTextCardSaid :=
  Claim7.holds_tied_plain_at .later [] [.data, .data, .data] true (true, "f464507bc346342c9106f2dc58d5ce8ba9ed8a5d15ae795859695ca8a3894bc7") false
    callText_row (fun _ h => by cases h) (by kernel_rfl) (fun _ h => by cases h) fnExactCallText_row_tie rfl ⟨rfl, rfl⟩ (by kernel_rfl) rfl
    (fun f fn hf hfn => by
      obtain rfl : f = 4 := Option.some.inj ((show Tryd.prog.funcNamed "loop.example/g00788/laws.FnExactCallText" = some 4 by kernel_rfl).symm.trans hf) |>.symm
      obtain rfl : fn = Tryd.f4 := (Option.some.inj (Tryd.func4.symm.trans hfn)).symm
      exact ⟨by kernel_rfl, fun j t ht => by
        rw [Tryd.params4] at ht
        have hm : t ∈ [29] := by simpa using Array.mem_of_getElem? ht
        have hall : ([29].all fun u => !Tryd.prog.wantsStandIn u) = true := by kernel_rfl
        exact (show Tryd.prog.wantsStandIn t = false by simpa using List.all_eq_true.1 hall t hm)⟩)
    (by kernel_rfl)
#print axioms callText_holds
end Go.Proofs.YtmofbeofijlofaaDoor
