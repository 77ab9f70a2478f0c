/-
  NARROWER THAN 'FOR EVERY INPUT', by the rows' own cells (each row's printed sentence says how): FnExactHouseOK: loops · FnExactSameHouse: loops · FnExactPermitted: loops · FnExactSanitizedTwice: loops · FnExactRemoved: loops.
  DERIVED. THE GIVEN ROWS OF THIS SEAT. 5 by the template 'for every input the law returns true; each argument reads behind the call as it read before'; 0 by the template 'total and deterministic' (their statements: YthfcgefegbfklaaGreatTotals.lean).
  GIVEN WITH THE SEED: the statements are not yours to turn. If you find one false, say at which input.
  Laid BY PROGRAM, IN A SANDBOX (cutbox-rows.mjs): the forced cells as the released guide's own fill.sh prints them over the translation 39bb1c6399e85517… (all of the seat's roots in one cut). By AI agents, Wed Nov 11 2026. No macro, syntax, notation, axiom, sorry.
-/
import Derived.Test.YthfcgefegbfklaaGreatChecked
import GoSem.Claim
import GoSem.ClaimJoined
import GoSem.ClaimMapViews
import Derived.JoinedTies
import Derived.KernelRfl
namespace Go.Proofs.YthfcgefegbfklaaGreat
/- THE CELL 'sum', in the pinned program and in every row, IS THE sha256 OF THE DUMP (.gsa) THAT YthfcgefegbfklaaGreatProg.lean LOADS. Nothing in Lean hashes anything: it is a label: what it is worth is what the hold of that sum in a sandbox is worth. -/
noncomputable def Tryz.pinned : Pinned := { name := "ythfcgefegbfklaagreat", sum := "39bb1c6399e855176ffb4b88cda3038829b0dab54bfafb4c32963ba65f2d5ece", checked := Tryz.checked }
namespace Rows
def none {H : Type} : Left H := { results := [], args := [] }

/-- 'laws.FnExactHouseOK': WHATEVER THE INPUT: true; the input reads as it did. -/
def fnExactHouseOKSpec : ChangeSpec := { name := "fnExactHouseOK", fn := fun _ => fun
  | [d] => { results := [.lit (.bool true)], args := [d] }
  | _ => none }
def fnExactHouseOKRow : OpenClaim := { program := "ythfcgefegbfklaagreat", sum := "39bb1c6399e855176ffb4b88cda3038829b0dab54bfafb4c32963ba65f2d5ece", func := "loop.example/g00788/laws.FnExactHouseOK", spec := "fnExactHouseOK", unfollowed := true, recurses := true, loops := true, apart := false }
def FnExactHouseOKSaid : Prop := fnExactHouseOKRow.holds Tryz.pinned (OpenSpec.ofChange fnExactHouseOKSpec)

/-- ITS FALSE NEIGHBOUR: 'it returns false'. Refute it at one input. -/
def fnExactHouseOKWrong : ChangeSpec := { name := "fnExactHouseOK", fn := fun _ => fun
  | [d] => { results := [.lit (.bool false)], args := [d] }
  | _ => none }
def FnExactHouseOKWrongFalsely : Prop := fnExactHouseOKRow.holds Tryz.pinned (OpenSpec.ofChange fnExactHouseOKWrong)

/-- 'laws.FnExactSameHouse': WHATEVER THE INPUT: true; the input reads as it did. -/
def fnExactSameHouseSpec : ChangeSpec := { name := "fnExactSameHouse", fn := fun _ => fun
  | [d1, d2] => { results := [.lit (.bool true)], args := [d1, d2] }
  | _ => none }
def fnExactSameHouseRow : OpenClaim := { program := "ythfcgefegbfklaagreat", sum := "39bb1c6399e855176ffb4b88cda3038829b0dab54bfafb4c32963ba65f2d5ece", func := "loop.example/g00788/laws.FnExactSameHouse", spec := "fnExactSameHouse", unfollowed := true, recurses := true, loops := true, apart := false }
def FnExactSameHouseSaid : Prop := fnExactSameHouseRow.holds Tryz.pinned (OpenSpec.ofChange fnExactSameHouseSpec)

/-- ITS FALSE NEIGHBOUR: 'it returns false'. Refute it at one input. -/
def fnExactSameHouseWrong : ChangeSpec := { name := "fnExactSameHouse", fn := fun _ => fun
  | [d1, d2] => { results := [.lit (.bool false)], args := [d1, d2] }
  | _ => none }
def FnExactSameHouseWrongFalsely : Prop := fnExactSameHouseRow.holds Tryz.pinned (OpenSpec.ofChange fnExactSameHouseWrong)

/-- 'laws.FnExactPermitted': WHATEVER THE INPUT: true; the input reads as it did. -/
def fnExactPermittedSpec : ChangeSpec := { name := "fnExactPermitted", fn := fun _ => fun
  | [d1, d2] => { results := [.lit (.bool true)], args := [d1, d2] }
  | _ => none }
def fnExactPermittedRow : OpenClaim := { program := "ythfcgefegbfklaagreat", sum := "39bb1c6399e855176ffb4b88cda3038829b0dab54bfafb4c32963ba65f2d5ece", func := "loop.example/g00788/laws.FnExactPermitted", spec := "fnExactPermitted", inPlace := ["internal/bytealg.IndexByteString", "internal/bytealg.IndexString"], unfollowed := true, recurses := true, named := ["internal/bytealg.MaxLen"], loops := true, apart := false }
def FnExactPermittedSaid : Prop := fnExactPermittedRow.holds Tryz.pinned (OpenSpec.ofChange fnExactPermittedSpec)

/-- ITS FALSE NEIGHBOUR: 'it returns false'. Refute it at one input. -/
def fnExactPermittedWrong : ChangeSpec := { name := "fnExactPermitted", fn := fun _ => fun
  | [d1, d2] => { results := [.lit (.bool false)], args := [d1, d2] }
  | _ => none }
def FnExactPermittedWrongFalsely : Prop := fnExactPermittedRow.holds Tryz.pinned (OpenSpec.ofChange fnExactPermittedWrong)

/-- 'laws.FnExactSanitizedTwice': WHATEVER THE INPUT: true; the input reads as it did. -/
def fnExactSanitizedTwiceSpec : ChangeSpec := { name := "fnExactSanitizedTwice", fn := fun _ => fun
  | [d1, d2] => { results := [.lit (.bool true)], args := [d1, d2] }
  | _ => none }
def fnExactSanitizedTwiceRow : OpenClaim := { program := "ythfcgefegbfklaagreat", sum := "39bb1c6399e855176ffb4b88cda3038829b0dab54bfafb4c32963ba65f2d5ece", func := "loop.example/g00788/laws.FnExactSanitizedTwice", spec := "fnExactSanitizedTwice", inPlace := ["internal/bytealg.IndexByteString", "internal/bytealg.IndexString"], unfollowed := true, recurses := true, named := ["internal/bytealg.MaxLen"], loops := true, apart := false }
def FnExactSanitizedTwiceSaid : Prop := fnExactSanitizedTwiceRow.holds Tryz.pinned (OpenSpec.ofChange fnExactSanitizedTwiceSpec)

/-- ITS FALSE NEIGHBOUR: 'it returns false'. Refute it at one input. -/
def fnExactSanitizedTwiceWrong : ChangeSpec := { name := "fnExactSanitizedTwice", fn := fun _ => fun
  | [d1, d2] => { results := [.lit (.bool false)], args := [d1, d2] }
  | _ => none }
def FnExactSanitizedTwiceWrongFalsely : Prop := fnExactSanitizedTwiceRow.holds Tryz.pinned (OpenSpec.ofChange fnExactSanitizedTwiceWrong)

/-- 'laws.FnExactRemoved': WHATEVER THE INPUT: true; the input reads as it did. -/
def fnExactRemovedSpec : ChangeSpec := { name := "fnExactRemoved", fn := fun _ => fun
  | [d1, d2] => { results := [.lit (.bool true)], args := [d1, d2] }
  | _ => none }
def fnExactRemovedRow : OpenClaim := { program := "ythfcgefegbfklaagreat", sum := "39bb1c6399e855176ffb4b88cda3038829b0dab54bfafb4c32963ba65f2d5ece", func := "loop.example/g00788/laws.FnExactRemoved", spec := "fnExactRemoved", inPlace := ["internal/bytealg.IndexByteString", "internal/bytealg.IndexString"], unfollowed := true, recurses := true, named := ["internal/bytealg.MaxLen"], loops := true, apart := false }
def FnExactRemovedSaid : Prop := fnExactRemovedRow.holds Tryz.pinned (OpenSpec.ofChange fnExactRemovedSpec)

/-- ITS FALSE NEIGHBOUR: 'it returns false'. Refute it at one input. -/
def fnExactRemovedWrong : ChangeSpec := { name := "fnExactRemoved", fn := fun _ => fun
  | [d1, d2] => { results := [.lit (.bool false)], args := [d1, d2] }
  | _ => none }
def FnExactRemovedWrongFalsely : Prop := fnExactRemovedRow.holds Tryz.pinned (OpenSpec.ofChange fnExactRemovedWrong)

/- THE SECOND FORM. 'bulk': how many values and letters a reading holds, each counted each time it is reached (what is shared counts as often as it is met; a slice's spare places count too). A statement '..UptoSaid' is the law's where the arguments, and the package variables that the reading takes, are together of bulk at most 1048576: NARROWER than '..Said'. Prove '..Said' where nothing that the law and all that it calls make is longer than what came in: it says more and counts as full. Else prove '..UptoSaid'. A law counts once. -/
mutual
def uptoBulk {H : Type} : DataW H → Nat
  | .lit (.string bytes) => bytes.length + 1
  | .lit _ => 1
  | .nil => 1
  | .ptr d => uptoBulk d + 1
  | .slice elems spare => uptoBulkAll elems + uptoBulkAll spare + 1
  | .agg parts => uptoBulkAll parts + 1
  | .iface _ d => uptoBulk d + 1
  | .map entries => uptoBulkEntries entries + 1
  | .held _ => 1
def uptoBulkAll {H : Type} : List (DataW H) → Nat
  | [] => 0
  | d :: r => uptoBulk d + uptoBulkAll r
def uptoBulkEntries {H : Type} : List (Lit × DataW H) → Nat
  | [] => 0
  | x :: r => uptoBulkEntry x + uptoBulkEntries r
def uptoBulkEntry {H : Type} : Lit × DataW H → Nat
  | (.string bytes, d) => bytes.length + uptoBulk d + 1
  | (_, d) => uptoBulk d + 1
 end
def uptoSmall : (H : Type) → List (DataW H) → Bool := fun _ ds => decide (uptoBulkAll ds ≤ 1048576)
def OpenSpec.upto (s : _root_.Go.ChangeSpec) : _root_.Go.OpenSpec := { _root_.Go.OpenSpec.ofChange s with cond := some uptoSmall }

/-- 'laws.FnExactHouseOK', WHERE WHAT IT READS IS OF BULK AT MOST 1048576: true; the input reads as it did. -/
def fnExactHouseOKUptoRow : OpenClaim := { program := "ythfcgefegbfklaagreat", sum := "39bb1c6399e855176ffb4b88cda3038829b0dab54bfafb4c32963ba65f2d5ece", func := "loop.example/g00788/laws.FnExactHouseOK", spec := "fnExactHouseOK", unfollowed := true, recurses := true, loops := true, apart := false, narrowed := true }
def FnExactHouseOKUptoSaid : Prop := fnExactHouseOKUptoRow.holds Tryz.pinned (OpenSpec.upto fnExactHouseOKSpec)

/-- 'laws.FnExactSameHouse', WHERE WHAT IT READS IS OF BULK AT MOST 1048576: true; the input reads as it did. -/
def fnExactSameHouseUptoRow : OpenClaim := { program := "ythfcgefegbfklaagreat", sum := "39bb1c6399e855176ffb4b88cda3038829b0dab54bfafb4c32963ba65f2d5ece", func := "loop.example/g00788/laws.FnExactSameHouse", spec := "fnExactSameHouse", unfollowed := true, recurses := true, loops := true, apart := false, narrowed := true }
def FnExactSameHouseUptoSaid : Prop := fnExactSameHouseUptoRow.holds Tryz.pinned (OpenSpec.upto fnExactSameHouseSpec)

/-- 'laws.FnExactPermitted', WHERE WHAT IT READS IS OF BULK AT MOST 1048576: true; the input reads as it did. -/
def fnExactPermittedUptoRow : OpenClaim := { program := "ythfcgefegbfklaagreat", sum := "39bb1c6399e855176ffb4b88cda3038829b0dab54bfafb4c32963ba65f2d5ece", func := "loop.example/g00788/laws.FnExactPermitted", spec := "fnExactPermitted", inPlace := ["internal/bytealg.IndexByteString", "internal/bytealg.IndexString"], unfollowed := true, recurses := true, named := ["internal/bytealg.MaxLen"], loops := true, apart := false, narrowed := true }
def FnExactPermittedUptoSaid : Prop := fnExactPermittedUptoRow.holds Tryz.pinned (OpenSpec.upto fnExactPermittedSpec)

/-- 'laws.FnExactSanitizedTwice', WHERE WHAT IT READS IS OF BULK AT MOST 1048576: true; the input reads as it did. -/
def fnExactSanitizedTwiceUptoRow : OpenClaim := { program := "ythfcgefegbfklaagreat", sum := "39bb1c6399e855176ffb4b88cda3038829b0dab54bfafb4c32963ba65f2d5ece", func := "loop.example/g00788/laws.FnExactSanitizedTwice", spec := "fnExactSanitizedTwice", inPlace := ["internal/bytealg.IndexByteString", "internal/bytealg.IndexString"], unfollowed := true, recurses := true, named := ["internal/bytealg.MaxLen"], loops := true, apart := false, narrowed := true }
def FnExactSanitizedTwiceUptoSaid : Prop := fnExactSanitizedTwiceUptoRow.holds Tryz.pinned (OpenSpec.upto fnExactSanitizedTwiceSpec)

/-- 'laws.FnExactRemoved', WHERE WHAT IT READS IS OF BULK AT MOST 1048576: true; the input reads as it did. -/
def fnExactRemovedUptoRow : OpenClaim := { program := "ythfcgefegbfklaagreat", sum := "39bb1c6399e855176ffb4b88cda3038829b0dab54bfafb4c32963ba65f2d5ece", func := "loop.example/g00788/laws.FnExactRemoved", spec := "fnExactRemoved", inPlace := ["internal/bytealg.IndexByteString", "internal/bytealg.IndexString"], unfollowed := true, recurses := true, named := ["internal/bytealg.MaxLen"], loops := true, apart := false, narrowed := true }
def FnExactRemovedUptoSaid : Prop := fnExactRemovedUptoRow.holds Tryz.pinned (OpenSpec.upto fnExactRemovedSpec)

end Rows
end Go.Proofs.YthfcgefegbfklaaGreat
