/-
  DERIVED. GIVEN WITH THE SEED: THE CARDS: each row of YtnnaepmjmpnimaaGreatDoorRows.lean that lists a variable, with what it lists TIED to the program's text (the seventh form; the later family's looks); each row that meets fmt, with fmt's text TOLD by the authors' own Lean function (tested against real Go, not proved from fmt's source: count such statements apart). THE CARD IS WHAT COUNTS. Prove the row's statement (the work); the ties are given (YtnnaepmjmpnimaaGreatDoorTie.lean); close each card by the builder's one call (the guide's Derived/Test/ToyasCard.lean, 'card_holds'). Laid BY PROGRAM, IN A SANDBOX (cutbox-door.mjs). By AI agents, Wed Nov 11 2026. No macro, syntax, notation, axiom, sorry.
-/
import Derived.Test.YtnnaepmjmpnimaaGreatDoorRows
import GoSem.ClaimSeven
namespace Go.Proofs.YtnnaepmjmpnimaaGreatDoor
namespace Rows

/-- THE TIED CARD OF 'laws.FnExactBuild'. -/
def fnExactBuildCard : Claim7 := { stood := { row := fnExactBuildRow, standIns := [], harness := (true, "6916725ec20750b8c6de79b186e62356d3e7b7f7d5e9b3299b560c14bae93bba"), looks := true }, kinds := [], alts := [], laidByText := true, laidKinds := [.data, .data, .data, .sentinel, .sentinel], laidTests := true, laidLooks := .later }
def FnExactBuildCardSaid : Prop := Claim7.holds Tryz.pinned (.plain (OpenSpec.ofChange fnExactBuildSpec)) fnExactBuildCard

/-- THE TIED CARD OF 'laws.FnExactBuildIn'. -/
def fnExactBuildInCard : Claim7 := { stood := { row := fnExactBuildInRow, standIns := [], harness := (true, "6916725ec20750b8c6de79b186e62356d3e7b7f7d5e9b3299b560c14bae93bba"), looks := true }, kinds := [], alts := [], laidByText := true, laidKinds := [.data, .data, .data, .sentinel, .sentinel], laidTests := true, laidLooks := .later }
def FnExactBuildInCardSaid : Prop := Claim7.holds Tryz.pinned (.plain (OpenSpec.ofChange fnExactBuildInSpec)) fnExactBuildInCard

/-- THE TIED CARD OF 'laws.FnExactBuiltAgain'. -/
def fnExactBuiltAgainCard : Claim7 := { stood := { row := fnExactBuiltAgainRow, standIns := [], harness := (true, "6916725ec20750b8c6de79b186e62356d3e7b7f7d5e9b3299b560c14bae93bba"), looks := true }, kinds := [], alts := [], laidByText := true, laidKinds := [.data, .data, .data, .data, .sentinel, .sentinel, .pinned], laidTests := true, laidLooks := .later }
def FnExactBuiltAgainCardSaid : Prop := Claim7.holds Tryz.pinned (.plain (OpenSpec.ofChange fnExactBuiltAgainSpec)) fnExactBuiltAgainCard

/-- THE TIED CARD OF 'laws.FnExactStable'. -/
def fnExactStableCard : Claim7 := { stood := { row := fnExactStableRow, standIns := [], harness := (true, "6916725ec20750b8c6de79b186e62356d3e7b7f7d5e9b3299b560c14bae93bba"), looks := true }, kinds := [], alts := [], laidByText := true, laidKinds := [.data, .data, .data, .data, .sentinel, .sentinel, .pinned], laidTests := true, laidLooks := .later }
def FnExactStableCardSaid : Prop := Claim7.holds Tryz.pinned (.plain (OpenSpec.ofChange fnExactStableSpec)) fnExactStableCard

/-- THE TIED CARD OF 'laws.FnExactReparse'. -/
def fnExactReparseCard : Claim7 := { stood := { row := fnExactReparseRow, standIns := [], harness := (true, "6916725ec20750b8c6de79b186e62356d3e7b7f7d5e9b3299b560c14bae93bba"), looks := true }, kinds := [], alts := [], laidByText := true, laidKinds := [.data, .data, .data, .data, .sentinel, .sentinel, .pinned], laidTests := true, laidLooks := .later }
def FnExactReparseCardSaid : Prop := Claim7.holds Tryz.pinned (.plain (OpenSpec.ofChange fnExactReparseSpec)) fnExactReparseCard

/-- THE TIED CARD OF 'laws.FnExactReparseTimes'. -/
def fnExactReparseTimesCard : Claim7 := { stood := { row := fnExactReparseTimesRow, standIns := [], harness := (true, "6916725ec20750b8c6de79b186e62356d3e7b7f7d5e9b3299b560c14bae93bba"), looks := true }, kinds := [], alts := [], laidByText := true, laidKinds := [.data, .data, .data, .data, .sentinel, .sentinel, .pinned], laidTests := true, laidLooks := .later }
def FnExactReparseTimesCardSaid : Prop := Claim7.holds Tryz.pinned (.plain (OpenSpec.ofChange fnExactReparseTimesSpec)) fnExactReparseTimesCard

/-- THE SECOND FORM's CARD OF 'laws.FnExactBuild'. -/
def fnExactBuildUptoCard : Claim7 := { stood := { row := fnExactBuildUptoRow, standIns := [], harness := (true, "6916725ec20750b8c6de79b186e62356d3e7b7f7d5e9b3299b560c14bae93bba"), looks := true }, kinds := [], alts := [], laidByText := true, laidKinds := [.data, .data, .data, .sentinel, .sentinel], laidTests := true, laidLooks := .later }
def FnExactBuildUptoCardSaid : Prop := Claim7.holds Tryz.pinned (.plain (OpenSpec.upto fnExactBuildSpec)) fnExactBuildUptoCard

/-- THE SECOND FORM's CARD OF 'laws.FnExactBuildIn'. -/
def fnExactBuildInUptoCard : Claim7 := { stood := { row := fnExactBuildInUptoRow, standIns := [], harness := (true, "6916725ec20750b8c6de79b186e62356d3e7b7f7d5e9b3299b560c14bae93bba"), looks := true }, kinds := [], alts := [], laidByText := true, laidKinds := [.data, .data, .data, .sentinel, .sentinel], laidTests := true, laidLooks := .later }
def FnExactBuildInUptoCardSaid : Prop := Claim7.holds Tryz.pinned (.plain (OpenSpec.upto fnExactBuildInSpec)) fnExactBuildInUptoCard

/-- THE SECOND FORM's CARD OF 'laws.FnExactBuiltAgain'. -/
def fnExactBuiltAgainUptoCard : Claim7 := { stood := { row := fnExactBuiltAgainUptoRow, standIns := [], harness := (true, "6916725ec20750b8c6de79b186e62356d3e7b7f7d5e9b3299b560c14bae93bba"), looks := true }, kinds := [], alts := [], laidByText := true, laidKinds := [.data, .data, .data, .data, .sentinel, .sentinel, .pinned], laidTests := true, laidLooks := .later }
def FnExactBuiltAgainUptoCardSaid : Prop := Claim7.holds Tryz.pinned (.plain (OpenSpec.upto fnExactBuiltAgainSpec)) fnExactBuiltAgainUptoCard

/-- THE SECOND FORM's CARD OF 'laws.FnExactStable'. -/
def fnExactStableUptoCard : Claim7 := { stood := { row := fnExactStableUptoRow, standIns := [], harness := (true, "6916725ec20750b8c6de79b186e62356d3e7b7f7d5e9b3299b560c14bae93bba"), looks := true }, kinds := [], alts := [], laidByText := true, laidKinds := [.data, .data, .data, .data, .sentinel, .sentinel, .pinned], laidTests := true, laidLooks := .later }
def FnExactStableUptoCardSaid : Prop := Claim7.holds Tryz.pinned (.plain (OpenSpec.upto fnExactStableSpec)) fnExactStableUptoCard

/-- THE SECOND FORM's CARD OF 'laws.FnExactReparse'. -/
def fnExactReparseUptoCard : Claim7 := { stood := { row := fnExactReparseUptoRow, standIns := [], harness := (true, "6916725ec20750b8c6de79b186e62356d3e7b7f7d5e9b3299b560c14bae93bba"), looks := true }, kinds := [], alts := [], laidByText := true, laidKinds := [.data, .data, .data, .data, .sentinel, .sentinel, .pinned], laidTests := true, laidLooks := .later }
def FnExactReparseUptoCardSaid : Prop := Claim7.holds Tryz.pinned (.plain (OpenSpec.upto fnExactReparseSpec)) fnExactReparseUptoCard

/-- THE SECOND FORM's CARD OF 'laws.FnExactReparseTimes'. -/
def fnExactReparseTimesUptoCard : Claim7 := { stood := { row := fnExactReparseTimesUptoRow, standIns := [], harness := (true, "6916725ec20750b8c6de79b186e62356d3e7b7f7d5e9b3299b560c14bae93bba"), looks := true }, kinds := [], alts := [], laidByText := true, laidKinds := [.data, .data, .data, .data, .sentinel, .sentinel, .pinned], laidTests := true, laidLooks := .later }
def FnExactReparseTimesUptoCardSaid : Prop := Claim7.holds Tryz.pinned (.plain (OpenSpec.upto fnExactReparseTimesSpec)) fnExactReparseTimesUptoCard
end Rows
end Go.Proofs.YtnnaepmjmpnimaaGreatDoor
