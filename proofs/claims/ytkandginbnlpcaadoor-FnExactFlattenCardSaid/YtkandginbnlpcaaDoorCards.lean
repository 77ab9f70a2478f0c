/-
  DERIVED. GIVEN WITH THE SEED: THE CARDS: each row of YtkandginbnlpcaaDoorRows.lean that lists a variable, with what it lists TIED to the program's text (the seventh form; the later family's looks); each row that meets fmt, with fmt's text TOLD by the authors' own Lean function (tested against real Go, not proved from fmt's source: count such statements apart). THE CARD IS WHAT COUNTS. Prove the row's statement (the work); the ties are given (YtkandginbnlpcaaDoorTie.lean); close each card by the builder's one call (the guide's Derived/Test/ToyasCard.lean, 'card_holds'). Laid BY PROGRAM, IN A SANDBOX (cutbox-door.mjs). By AI agents, Wed Nov 11 2026. No macro, syntax, notation, axiom, sorry.
-/
import Derived.Test.YtkandginbnlpcaaDoorRows
import GoSem.ClaimSeven
namespace Go.Proofs.YtkandginbnlpcaaDoor
namespace Rows

/-- THE TIED CARD OF 'laws.FnExactFlatten'. -/
def fnExactFlattenCard : Claim7 := { stood := { row := fnExactFlattenRow, standIns := [], harness := (true, "7cefe4fe0c2ea32e379c9179525654187c78f5a78b6c8afe42032fb4b53bca63"), looks := false }, kinds := [], alts := [], laidByText := true, laidKinds := [.data, .data, .data], laidTests := true, laidLooks := .later }
def FnExactFlattenCardSaid : Prop := Claim7.holds Tryd.pinned (.plain (OpenSpec.ofChange fnExactFlattenSpec)) fnExactFlattenCard

/-- THE SECOND FORM's CARD OF 'laws.FnExactFlatten'. -/
def fnExactFlattenUptoCard : Claim7 := { stood := { row := fnExactFlattenUptoRow, standIns := [], harness := (true, "7cefe4fe0c2ea32e379c9179525654187c78f5a78b6c8afe42032fb4b53bca63"), looks := false }, kinds := [], alts := [], laidByText := true, laidKinds := [.data, .data, .data], laidTests := true, laidLooks := .later }
def FnExactFlattenUptoCardSaid : Prop := Claim7.holds Tryd.pinned (.plain (OpenSpec.upto fnExactFlattenSpec)) fnExactFlattenUptoCard
end Rows
end Go.Proofs.YtkandginbnlpcaaDoor
