/-
  DERIVED. GIVEN WITH THE SEED: THE CARDS: each row of YtjnachnjfdgpgaaGreatDoorRows.lean that lists a variable, with what it lists TIED to the program's text (the seventh form; the later family's looks); each row that meets fmt, with fmt's text TOLD by the authors' own Lean function (tested against real Go, not proved from fmt's source: count such statements apart). THE CARD IS WHAT COUNTS. Prove the row's statement (the work); the ties are given (YtjnachnjfdgpgaaGreatDoorTie.lean); close each card by the builder's one call (the guide's Derived/Test/ToyasCard.lean, 'card_holds'). Laid BY PROGRAM, IN A SANDBOX (cutbox-door.mjs). By AI agents, Wed Nov 11 2026. No macro, syntax, notation, axiom, sorry.
-/
import Derived.Test.YtjnachnjfdgpgaaGreatDoorRows
import GoSem.ClaimSeven
namespace Go.Proofs.YtjnachnjfdgpgaaGreatDoor
namespace Rows

/-- THE TIED CARD OF 'laws.FnExactBuiltAgain'. -/
def fnExactBuiltAgainCard : Claim7 := { stood := { row := fnExactBuiltAgainRow, standIns := [], harness := (true, "72d7be917c6ef1659b89a86922a46f36c674b675f8a5276220fef423178a786c"), looks := true }, kinds := [], alts := [], laidByText := true, laidKinds := [.data, .data, .data, .data, .sentinel, .sentinel, .pinned], laidTests := true, laidLooks := .later }
def FnExactBuiltAgainCardSaid : Prop := Claim7.holds Tryz.pinned (.plain (OpenSpec.ofChange fnExactBuiltAgainSpec)) fnExactBuiltAgainCard

/-- THE TIED CARD OF 'laws.FnExactStable'. -/
def fnExactStableCard : Claim7 := { stood := { row := fnExactStableRow, standIns := [], harness := (true, "72d7be917c6ef1659b89a86922a46f36c674b675f8a5276220fef423178a786c"), looks := true }, kinds := [], alts := [], laidByText := true, laidKinds := [.data, .data, .data, .data, .sentinel, .sentinel, .pinned], laidTests := true, laidLooks := .later }
def FnExactStableCardSaid : Prop := Claim7.holds Tryz.pinned (.plain (OpenSpec.ofChange fnExactStableSpec)) fnExactStableCard

/-- THE TIED CARD OF 'laws.FnExactReparse'. -/
def fnExactReparseCard : Claim7 := { stood := { row := fnExactReparseRow, standIns := [], harness := (true, "72d7be917c6ef1659b89a86922a46f36c674b675f8a5276220fef423178a786c"), looks := true }, kinds := [], alts := [], laidByText := true, laidKinds := [.data, .data, .data, .data, .sentinel, .sentinel, .pinned], laidTests := true, laidLooks := .later }
def FnExactReparseCardSaid : Prop := Claim7.holds Tryz.pinned (.plain (OpenSpec.ofChange fnExactReparseSpec)) fnExactReparseCard

/-- THE TIED CARD OF 'laws.FnExactReparseTimes'. -/
def fnExactReparseTimesCard : Claim7 := { stood := { row := fnExactReparseTimesRow, standIns := [], harness := (true, "72d7be917c6ef1659b89a86922a46f36c674b675f8a5276220fef423178a786c"), looks := true }, kinds := [], alts := [], laidByText := true, laidKinds := [.data, .data, .data, .data, .sentinel, .sentinel, .pinned], laidTests := true, laidLooks := .later }
def FnExactReparseTimesCardSaid : Prop := Claim7.holds Tryz.pinned (.plain (OpenSpec.ofChange fnExactReparseTimesSpec)) fnExactReparseTimesCard

/-- THE TIED CARD OF 'laws.FnExactSafeTimes'. -/
def fnExactSafeTimesCard : Claim7 := { stood := { row := fnExactSafeTimesRow, standIns := [], harness := (true, "72d7be917c6ef1659b89a86922a46f36c674b675f8a5276220fef423178a786c"), looks := true }, kinds := [], alts := [], laidByText := true, laidKinds := [.data, .data, .data, .data, .sentinel, .sentinel, .pinned], laidTests := true, laidLooks := .later }
def FnExactSafeTimesCardSaid : Prop := Claim7.holds Tryz.pinned (.plain (OpenSpec.ofChange fnExactSafeTimesSpec)) fnExactSafeTimesCard

/-- THE TIED CARD OF 'laws.FnExactSanitizeText'. -/
def fnExactSanitizeTextCard : Claim7 := { stood := { row := fnExactSanitizeTextRow, standIns := [], harness := (true, "72d7be917c6ef1659b89a86922a46f36c674b675f8a5276220fef423178a786c"), looks := true }, kinds := [], alts := [], laidByText := true, laidKinds := [.data, .data, .data, .data, .sentinel, .sentinel, .pinned], laidTests := true, laidLooks := .later }
def FnExactSanitizeTextCardSaid : Prop := Claim7.holds Tryz.pinned (.plain (OpenSpec.ofChange fnExactSanitizeTextSpec)) fnExactSanitizeTextCard

/-- THE SECOND FORM's CARD OF 'laws.FnExactBuiltAgain'. -/
def fnExactBuiltAgainUptoCard : Claim7 := { stood := { row := fnExactBuiltAgainUptoRow, standIns := [], harness := (true, "72d7be917c6ef1659b89a86922a46f36c674b675f8a5276220fef423178a786c"), looks := true }, kinds := [], alts := [], laidByText := true, laidKinds := [.data, .data, .data, .data, .sentinel, .sentinel, .pinned], laidTests := true, laidLooks := .later }
def FnExactBuiltAgainUptoCardSaid : Prop := Claim7.holds Tryz.pinned (.plain (OpenSpec.upto fnExactBuiltAgainSpec)) fnExactBuiltAgainUptoCard

/-- THE SECOND FORM's CARD OF 'laws.FnExactStable'. -/
def fnExactStableUptoCard : Claim7 := { stood := { row := fnExactStableUptoRow, standIns := [], harness := (true, "72d7be917c6ef1659b89a86922a46f36c674b675f8a5276220fef423178a786c"), looks := true }, kinds := [], alts := [], laidByText := true, laidKinds := [.data, .data, .data, .data, .sentinel, .sentinel, .pinned], laidTests := true, laidLooks := .later }
def FnExactStableUptoCardSaid : Prop := Claim7.holds Tryz.pinned (.plain (OpenSpec.upto fnExactStableSpec)) fnExactStableUptoCard

/-- THE SECOND FORM's CARD OF 'laws.FnExactReparse'. -/
def fnExactReparseUptoCard : Claim7 := { stood := { row := fnExactReparseUptoRow, standIns := [], harness := (true, "72d7be917c6ef1659b89a86922a46f36c674b675f8a5276220fef423178a786c"), looks := true }, kinds := [], alts := [], laidByText := true, laidKinds := [.data, .data, .data, .data, .sentinel, .sentinel, .pinned], laidTests := true, laidLooks := .later }
def FnExactReparseUptoCardSaid : Prop := Claim7.holds Tryz.pinned (.plain (OpenSpec.upto fnExactReparseSpec)) fnExactReparseUptoCard

/-- THE SECOND FORM's CARD OF 'laws.FnExactReparseTimes'. -/
def fnExactReparseTimesUptoCard : Claim7 := { stood := { row := fnExactReparseTimesUptoRow, standIns := [], harness := (true, "72d7be917c6ef1659b89a86922a46f36c674b675f8a5276220fef423178a786c"), looks := true }, kinds := [], alts := [], laidByText := true, laidKinds := [.data, .data, .data, .data, .sentinel, .sentinel, .pinned], laidTests := true, laidLooks := .later }
def FnExactReparseTimesUptoCardSaid : Prop := Claim7.holds Tryz.pinned (.plain (OpenSpec.upto fnExactReparseTimesSpec)) fnExactReparseTimesUptoCard

/-- THE SECOND FORM's CARD OF 'laws.FnExactSafeTimes'. -/
def fnExactSafeTimesUptoCard : Claim7 := { stood := { row := fnExactSafeTimesUptoRow, standIns := [], harness := (true, "72d7be917c6ef1659b89a86922a46f36c674b675f8a5276220fef423178a786c"), looks := true }, kinds := [], alts := [], laidByText := true, laidKinds := [.data, .data, .data, .data, .sentinel, .sentinel, .pinned], laidTests := true, laidLooks := .later }
def FnExactSafeTimesUptoCardSaid : Prop := Claim7.holds Tryz.pinned (.plain (OpenSpec.upto fnExactSafeTimesSpec)) fnExactSafeTimesUptoCard

/-- THE SECOND FORM's CARD OF 'laws.FnExactSanitizeText'. -/
def fnExactSanitizeTextUptoCard : Claim7 := { stood := { row := fnExactSanitizeTextUptoRow, standIns := [], harness := (true, "72d7be917c6ef1659b89a86922a46f36c674b675f8a5276220fef423178a786c"), looks := true }, kinds := [], alts := [], laidByText := true, laidKinds := [.data, .data, .data, .data, .sentinel, .sentinel, .pinned], laidTests := true, laidLooks := .later }
def FnExactSanitizeTextUptoCardSaid : Prop := Claim7.holds Tryz.pinned (.plain (OpenSpec.upto fnExactSanitizeTextSpec)) fnExactSanitizeTextUptoCard
end Rows
end Go.Proofs.YtjnachnjfdgpgaaGreatDoor
