/-
  DERIVED. GIVEN WITH THE SEED: THE CARDS: each row of YthfcgefegbfklaaDoorRows.lean that lists a variable, with what it lists TIED to the program's text (the seventh form; the later family's looks); each row that meets fmt, with fmt's text TOLD by the authors' own Lean function (tested against real Go, not proved from fmt's source: count such statements apart). THE CARD IS WHAT COUNTS. Prove the row's statement (the work); the ties are given (YthfcgefegbfklaaDoorTie.lean); close each card by the builder's one call (the guide's Derived/Test/ToyasCard.lean, 'card_holds'). Laid BY PROGRAM, IN A SANDBOX (cutbox-door.mjs). By AI agents, Wed Nov 11 2026. No macro, syntax, notation, axiom, sorry.
-/
import Derived.Test.YthfcgefegbfklaaDoorRows
import GoSem.ClaimSeven
namespace Go.Proofs.YthfcgefegbfklaaDoor
namespace Rows

/-- THE TIED CARD OF 'laws.FnExactPartOf'. -/
def fnExactPartOfCard : Claim7 := { stood := { row := fnExactPartOfRow, standIns := [], harness := (true, "76ec4bdb508380ddf5beb4e5cf94106a13f9c822d7be6ce013483d4e85484f79"), looks := false }, kinds := [], alts := [], laidByText := true, laidKinds := [.data, .data, .data], laidTests := true, laidLooks := .later }
def FnExactPartOfCardSaid : Prop := Claim7.holds Tryd.pinned (.plain (OpenSpec.ofChange fnExactPartOfSpec)) fnExactPartOfCard

/-- THE SECOND FORM's CARD OF 'laws.FnExactPartOf'. -/
def fnExactPartOfUptoCard : Claim7 := { stood := { row := fnExactPartOfUptoRow, standIns := [], harness := (true, "76ec4bdb508380ddf5beb4e5cf94106a13f9c822d7be6ce013483d4e85484f79"), looks := false }, kinds := [], alts := [], laidByText := true, laidKinds := [.data, .data, .data], laidTests := true, laidLooks := .later }
def FnExactPartOfUptoCardSaid : Prop := Claim7.holds Tryd.pinned (.plain (OpenSpec.upto fnExactPartOfSpec)) fnExactPartOfUptoCard
end Rows
end Go.Proofs.YthfcgefegbfklaaDoor
