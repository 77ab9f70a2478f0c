/-
  DERIVED. GIVEN WITH THE SEED: THE CARDS: each row of YthncafnnekeogaaGreatDoorRows.lean that lists a variable, with what it lists TIED to the program's text (the seventh form; the later family's looks); each row that meets fmt, with fmt's text TOLD by the authors' own Lean function (tested against real Go, not proved from fmt's source: count such statements apart). THE CARD IS WHAT COUNTS. Prove the row's statement (the work); the ties are given (YthncafnnekeogaaGreatDoorTie.lean); close each card by the builder's one call (the guide's Derived/Test/ToyasCard.lean, 'card_holds'). Laid BY PROGRAM, IN A SANDBOX (cutbox-door.mjs). By AI agents, Wed Nov 11 2026. No macro, syntax, notation, axiom, sorry.
-/
import Derived.Test.YthncafnnekeogaaGreatDoorRows
import GoSem.ClaimSeven
namespace Go.Proofs.YthncafnnekeogaaGreatDoor
namespace Rows

/-- THE TIED CARD OF 'laws.FnExactBuild'. -/
def fnExactBuildCard : Claim7 := { stood := { row := fnExactBuildRow, standIns := [], harness := (true, "e381fa086b3a2894b2e4150f82b69d63040d801f230d5177424fc69ca1d8e90f"), looks := true }, kinds := [], alts := [], laidByText := true, laidKinds := [.data, .data, .data, .sentinel, .sentinel], laidTests := true, laidLooks := .later }
def FnExactBuildCardSaid : Prop := Claim7.holds Tryz.pinned (.plain (OpenSpec.ofChange fnExactBuildSpec)) fnExactBuildCard

/-- THE TIED CARD OF 'laws.FnExactBuildIn'. -/
def fnExactBuildInCard : Claim7 := { stood := { row := fnExactBuildInRow, standIns := [], harness := (true, "e381fa086b3a2894b2e4150f82b69d63040d801f230d5177424fc69ca1d8e90f"), looks := true }, kinds := [], alts := [], laidByText := true, laidKinds := [.data, .data, .data, .sentinel, .sentinel], laidTests := true, laidLooks := .later }
def FnExactBuildInCardSaid : Prop := Claim7.holds Tryz.pinned (.plain (OpenSpec.ofChange fnExactBuildInSpec)) fnExactBuildInCard

/-- THE TIED CARD OF 'laws.FnExactReadCall'. -/
def fnExactReadCallCard : Claim7 := { stood := { row := fnExactReadCallRow, standIns := [], harness := (true, "e381fa086b3a2894b2e4150f82b69d63040d801f230d5177424fc69ca1d8e90f"), looks := true }, kinds := [], alts := [], laidByText := true, laidKinds := [.data, .data, .data, .data, .sentinel, .sentinel, .pinned], laidTests := true, laidLooks := .later }
def FnExactReadCallCardSaid : Prop := Claim7.holds Tryz.pinned (.plain (OpenSpec.ofChange fnExactReadCallSpec)) fnExactReadCallCard

/-- THE TIED CARD OF 'laws.FnExactReparse'. -/
def fnExactReparseCard : Claim7 := { stood := { row := fnExactReparseRow, standIns := [], harness := (true, "e381fa086b3a2894b2e4150f82b69d63040d801f230d5177424fc69ca1d8e90f"), looks := true }, kinds := [], alts := [], laidByText := true, laidKinds := [.data, .data, .data, .data, .sentinel, .sentinel, .pinned], laidTests := true, laidLooks := .later }
def FnExactReparseCardSaid : Prop := Claim7.holds Tryz.pinned (.plain (OpenSpec.ofChange fnExactReparseSpec)) fnExactReparseCard

/-- THE SECOND FORM's CARD OF 'laws.FnExactBuild'. -/
def fnExactBuildUptoCard : Claim7 := { stood := { row := fnExactBuildUptoRow, standIns := [], harness := (true, "e381fa086b3a2894b2e4150f82b69d63040d801f230d5177424fc69ca1d8e90f"), looks := true }, kinds := [], alts := [], laidByText := true, laidKinds := [.data, .data, .data, .sentinel, .sentinel], laidTests := true, laidLooks := .later }
def FnExactBuildUptoCardSaid : Prop := Claim7.holds Tryz.pinned (.plain (OpenSpec.upto fnExactBuildSpec)) fnExactBuildUptoCard

/-- THE SECOND FORM's CARD OF 'laws.FnExactBuildIn'. -/
def fnExactBuildInUptoCard : Claim7 := { stood := { row := fnExactBuildInUptoRow, standIns := [], harness := (true, "e381fa086b3a2894b2e4150f82b69d63040d801f230d5177424fc69ca1d8e90f"), looks := true }, kinds := [], alts := [], laidByText := true, laidKinds := [.data, .data, .data, .sentinel, .sentinel], laidTests := true, laidLooks := .later }
def FnExactBuildInUptoCardSaid : Prop := Claim7.holds Tryz.pinned (.plain (OpenSpec.upto fnExactBuildInSpec)) fnExactBuildInUptoCard

/-- THE SECOND FORM's CARD OF 'laws.FnExactReadCall'. -/
def fnExactReadCallUptoCard : Claim7 := { stood := { row := fnExactReadCallUptoRow, standIns := [], harness := (true, "e381fa086b3a2894b2e4150f82b69d63040d801f230d5177424fc69ca1d8e90f"), looks := true }, kinds := [], alts := [], laidByText := true, laidKinds := [.data, .data, .data, .data, .sentinel, .sentinel, .pinned], laidTests := true, laidLooks := .later }
def FnExactReadCallUptoCardSaid : Prop := Claim7.holds Tryz.pinned (.plain (OpenSpec.upto fnExactReadCallSpec)) fnExactReadCallUptoCard

/-- THE SECOND FORM's CARD OF 'laws.FnExactReparse'. -/
def fnExactReparseUptoCard : Claim7 := { stood := { row := fnExactReparseUptoRow, standIns := [], harness := (true, "e381fa086b3a2894b2e4150f82b69d63040d801f230d5177424fc69ca1d8e90f"), looks := true }, kinds := [], alts := [], laidByText := true, laidKinds := [.data, .data, .data, .data, .sentinel, .sentinel, .pinned], laidTests := true, laidLooks := .later }
def FnExactReparseUptoCardSaid : Prop := Claim7.holds Tryz.pinned (.plain (OpenSpec.upto fnExactReparseSpec)) fnExactReparseUptoCard
end Rows
end Go.Proofs.YthncafnnekeogaaGreatDoor
