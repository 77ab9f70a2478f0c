/-
  DERIVED. GIVEN WITH THE SEED: THE CARDS: each row of YtmofbeofijlofaaDoorRows.lean that lists a variable, with what it lists TIED to the program's text (the seventh form; the later family's looks); each row that meets fmt, with fmt's text TOLD by the authors' own Lean function (tested against real Go, not proved from fmt's source: count such statements apart). THE CARD IS WHAT COUNTS. Prove the row's statement (the work); the ties are given (YtmofbeofijlofaaDoorTie.lean); close each card by the builder's one call (the guide's Derived/Test/ToyasCard.lean, 'card_holds'). Laid BY PROGRAM, IN A SANDBOX (cutbox-door.mjs). By AI agents, Wed Nov 11 2026. No macro, syntax, notation, axiom, sorry.
-/
import Derived.Test.YtmofbeofijlofaaDoorRows
import GoSem.ClaimSeven
namespace Go.Proofs.YtmofbeofijlofaaDoor
namespace Rows

/-- THE TIED CARD OF 'laws.FnExactPathText'. -/
def fnExactPathTextCard : Claim7 := { stood := { row := fnExactPathTextRow, standIns := [], harness := (true, "f464507bc346342c9106f2dc58d5ce8ba9ed8a5d15ae795859695ca8a3894bc7"), looks := false }, kinds := [], alts := [], laidByText := true, laidKinds := [.data, .data, .data], laidTests := true, laidLooks := .later }
def FnExactPathTextCardSaid : Prop := Claim7.holds Tryd.pinned (.plain (OpenSpec.ofChange fnExactPathTextSpec)) fnExactPathTextCard

/-- THE TIED CARD OF 'laws.FnExactCallText'. -/
def fnExactCallTextCard : Claim7 := { stood := { row := fnExactCallTextRow, standIns := [], harness := (true, "f464507bc346342c9106f2dc58d5ce8ba9ed8a5d15ae795859695ca8a3894bc7"), looks := false }, kinds := [], alts := [], laidByText := true, laidKinds := [.data, .data, .data], laidTests := true, laidLooks := .later }
def FnExactCallTextCardSaid : Prop := Claim7.holds Tryd.pinned (.plain (OpenSpec.ofChange fnExactCallTextSpec)) fnExactCallTextCard

/-- THE SECOND FORM's CARD OF 'laws.FnExactPathText'. -/
def fnExactPathTextUptoCard : Claim7 := { stood := { row := fnExactPathTextUptoRow, standIns := [], harness := (true, "f464507bc346342c9106f2dc58d5ce8ba9ed8a5d15ae795859695ca8a3894bc7"), looks := false }, kinds := [], alts := [], laidByText := true, laidKinds := [.data, .data, .data], laidTests := true, laidLooks := .later }
def FnExactPathTextUptoCardSaid : Prop := Claim7.holds Tryd.pinned (.plain (OpenSpec.upto fnExactPathTextSpec)) fnExactPathTextUptoCard

/-- THE SECOND FORM's CARD OF 'laws.FnExactCallText'. -/
def fnExactCallTextUptoCard : Claim7 := { stood := { row := fnExactCallTextUptoRow, standIns := [], harness := (true, "f464507bc346342c9106f2dc58d5ce8ba9ed8a5d15ae795859695ca8a3894bc7"), looks := false }, kinds := [], alts := [], laidByText := true, laidKinds := [.data, .data, .data], laidTests := true, laidLooks := .later }
def FnExactCallTextUptoCardSaid : Prop := Claim7.holds Tryd.pinned (.plain (OpenSpec.upto fnExactCallTextSpec)) fnExactCallTextUptoCard
end Rows
end Go.Proofs.YtmofbeofijlofaaDoor
