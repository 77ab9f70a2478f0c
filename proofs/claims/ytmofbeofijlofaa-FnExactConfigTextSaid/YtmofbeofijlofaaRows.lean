/-
  NARROWER THAN 'FOR EVERY INPUT', by the rows' own cells (each row's printed sentence says how): FnExactSetAttr: loops · FnExactDropAttr: loops.
  DERIVED. THE GIVEN ROWS OF THIS SEAT. 4 by the template 'for every input the law returns true; each argument reads behind the call as it read before'; 0 by the template 'total and deterministic' (their statements: YtmofbeofijlofaaTotals.lean).
  GIVEN WITH THE SEED: the statements are not yours to turn. If you find one false, say at which input.
  Laid BY PROGRAM, IN A SANDBOX (cutbox-rows.mjs): the forced cells as the released guide's own fill.sh prints them over the translation fa30b7d538fa27ec… (all of the seat's roots in one cut). By AI agents, Wed Nov 11 2026. No macro, syntax, notation, axiom, sorry.
-/
import Derived.Test.YtmofbeofijlofaaChecked
import GoSem.Claim
import GoSem.ClaimJoined
import GoSem.ClaimMapViews
import Derived.JoinedTies
import Derived.KernelRfl
namespace Go.Proofs.Ytmofbeofijlofaa
/- THE CELL 'sum', in the pinned program and in every row, IS THE sha256 OF THE DUMP (.gsa) THAT YtmofbeofijlofaaProg.lean LOADS. Nothing in Lean hashes anything: it is a label: what it is worth is what the hold of that sum in a sandbox is worth. -/
noncomputable def Try.pinned : Pinned := { name := "ytmofbeofijlofaa", sum := "fa30b7d538fa27ec71dd7b0441af93109267efc9678620459e0472bb0cbc5b23", checked := Try.checked }
namespace Rows
def none {H : Type} : Left H := { results := [], args := [] }

/-- 'laws.FnExactAnswerText': WHATEVER THE INPUT: true; the input reads as it did. -/
def fnExactAnswerTextSpec : ChangeSpec := { name := "fnExactAnswerText", fn := fun _ => fun
  | [d] => { results := [.lit (.bool true)], args := [d] }
  | _ => none }
def fnExactAnswerTextRow : OpenClaim := { program := "ytmofbeofijlofaa", sum := "fa30b7d538fa27ec71dd7b0441af93109267efc9678620459e0472bb0cbc5b23", func := "loop.example/g00788/laws.FnExactAnswerText", spec := "fnExactAnswerText", unfollowed := true, recurses := true, apart := false }
def FnExactAnswerTextSaid : Prop := fnExactAnswerTextRow.holds Try.pinned (OpenSpec.ofChange fnExactAnswerTextSpec)

/-- ITS FALSE NEIGHBOUR: 'it returns false'. Refute it at one input. -/
def fnExactAnswerTextWrong : ChangeSpec := { name := "fnExactAnswerText", fn := fun _ => fun
  | [d] => { results := [.lit (.bool false)], args := [d] }
  | _ => none }
def FnExactAnswerTextWrongFalsely : Prop := fnExactAnswerTextRow.holds Try.pinned (OpenSpec.ofChange fnExactAnswerTextWrong)

/-- 'laws.FnExactConfigText': WHATEVER THE INPUT: true; the input reads as it did. -/
def fnExactConfigTextSpec : ChangeSpec := { name := "fnExactConfigText", fn := fun _ => fun
  | [d] => { results := [.lit (.bool true)], args := [d] }
  | _ => none }
def fnExactConfigTextRow : OpenClaim := { program := "ytmofbeofijlofaa", sum := "fa30b7d538fa27ec71dd7b0441af93109267efc9678620459e0472bb0cbc5b23", func := "loop.example/g00788/laws.FnExactConfigText", spec := "fnExactConfigText", inPlace := ["internal/abi.NoEscape", "internal/bytealg.MakeNoZero"], unfollowed := true, recurses := true, apart := false }
def FnExactConfigTextSaid : Prop := fnExactConfigTextRow.holds Try.pinned (OpenSpec.ofChange fnExactConfigTextSpec)

/-- ITS FALSE NEIGHBOUR: 'it returns false'. Refute it at one input. -/
def fnExactConfigTextWrong : ChangeSpec := { name := "fnExactConfigText", fn := fun _ => fun
  | [d] => { results := [.lit (.bool false)], args := [d] }
  | _ => none }
def FnExactConfigTextWrongFalsely : Prop := fnExactConfigTextRow.holds Try.pinned (OpenSpec.ofChange fnExactConfigTextWrong)

/-- 'laws.FnExactSetAttr': WHATEVER THE INPUT: true; the input reads as it did. -/
def fnExactSetAttrSpec : ChangeSpec := { name := "fnExactSetAttr", fn := fun _ => fun
  | [d1, d2, d3] => { results := [.lit (.bool true)], args := [d1, d2, d3] }
  | _ => none }
def fnExactSetAttrRow : OpenClaim := { program := "ytmofbeofijlofaa", sum := "fa30b7d538fa27ec71dd7b0441af93109267efc9678620459e0472bb0cbc5b23", func := "loop.example/g00788/laws.FnExactSetAttr", spec := "fnExactSetAttr", unfollowed := true, recurses := true, loops := true, apart := false }
def FnExactSetAttrSaid : Prop := fnExactSetAttrRow.holds Try.pinned (OpenSpec.ofChange fnExactSetAttrSpec)

/-- ITS FALSE NEIGHBOUR: 'it returns false'. Refute it at one input. -/
def fnExactSetAttrWrong : ChangeSpec := { name := "fnExactSetAttr", fn := fun _ => fun
  | [d1, d2, d3] => { results := [.lit (.bool false)], args := [d1, d2, d3] }
  | _ => none }
def FnExactSetAttrWrongFalsely : Prop := fnExactSetAttrRow.holds Try.pinned (OpenSpec.ofChange fnExactSetAttrWrong)

/-- 'laws.FnExactDropAttr': WHATEVER THE INPUT: true; the input reads as it did. -/
def fnExactDropAttrSpec : ChangeSpec := { name := "fnExactDropAttr", fn := fun _ => fun
  | [d1, d2, d3] => { results := [.lit (.bool true)], args := [d1, d2, d3] }
  | _ => none }
def fnExactDropAttrRow : OpenClaim := { program := "ytmofbeofijlofaa", sum := "fa30b7d538fa27ec71dd7b0441af93109267efc9678620459e0472bb0cbc5b23", func := "loop.example/g00788/laws.FnExactDropAttr", spec := "fnExactDropAttr", unfollowed := true, recurses := true, loops := true, apart := false }
def FnExactDropAttrSaid : Prop := fnExactDropAttrRow.holds Try.pinned (OpenSpec.ofChange fnExactDropAttrSpec)

/-- ITS FALSE NEIGHBOUR: 'it returns false'. Refute it at one input. -/
def fnExactDropAttrWrong : ChangeSpec := { name := "fnExactDropAttr", fn := fun _ => fun
  | [d1, d2, d3] => { results := [.lit (.bool false)], args := [d1, d2, d3] }
  | _ => none }
def FnExactDropAttrWrongFalsely : Prop := fnExactDropAttrRow.holds Try.pinned (OpenSpec.ofChange fnExactDropAttrWrong)

/- THE SECOND FORM. 'bulk': how many values and letters a reading holds, each counted each time it is reached (what is shared counts as often as it is met; a slice's spare places count too). A statement '..UptoSaid' is the law's where the arguments, and the package variables that the reading takes, are together of bulk at most 1048576: NARROWER than '..Said'. Prove '..Said' where nothing that the law and all that it calls make is longer than what came in: it says more and counts as full. Else prove '..UptoSaid'. A law counts once. -/
mutual
def uptoBulk {H : Type} : DataW H → Nat
  | .lit (.string bytes) => bytes.length + 1
  | .lit _ => 1
  | .nil => 1
  | .ptr d => uptoBulk d + 1
  | .slice elems spare => uptoBulkAll elems + uptoBulkAll spare + 1
  | .agg parts => uptoBulkAll parts + 1
  | .iface _ d => uptoBulk d + 1
  | .map entries => uptoBulkEntries entries + 1
  | .held _ => 1
def uptoBulkAll {H : Type} : List (DataW H) → Nat
  | [] => 0
  | d :: r => uptoBulk d + uptoBulkAll r
def uptoBulkEntries {H : Type} : List (Lit × DataW H) → Nat
  | [] => 0
  | x :: r => uptoBulkEntry x + uptoBulkEntries r
def uptoBulkEntry {H : Type} : Lit × DataW H → Nat
  | (.string bytes, d) => bytes.length + uptoBulk d + 1
  | (_, d) => uptoBulk d + 1
 end
def uptoSmall : (H : Type) → List (DataW H) → Bool := fun _ ds => decide (uptoBulkAll ds ≤ 1048576)
def OpenSpec.upto (s : _root_.Go.ChangeSpec) : _root_.Go.OpenSpec := { _root_.Go.OpenSpec.ofChange s with cond := some uptoSmall }

/-- 'laws.FnExactAnswerText', WHERE WHAT IT READS IS OF BULK AT MOST 1048576: true; the input reads as it did. -/
def fnExactAnswerTextUptoRow : OpenClaim := { program := "ytmofbeofijlofaa", sum := "fa30b7d538fa27ec71dd7b0441af93109267efc9678620459e0472bb0cbc5b23", func := "loop.example/g00788/laws.FnExactAnswerText", spec := "fnExactAnswerText", unfollowed := true, recurses := true, apart := false, narrowed := true }
def FnExactAnswerTextUptoSaid : Prop := fnExactAnswerTextUptoRow.holds Try.pinned (OpenSpec.upto fnExactAnswerTextSpec)

/-- 'laws.FnExactConfigText', WHERE WHAT IT READS IS OF BULK AT MOST 1048576: true; the input reads as it did. -/
def fnExactConfigTextUptoRow : OpenClaim := { program := "ytmofbeofijlofaa", sum := "fa30b7d538fa27ec71dd7b0441af93109267efc9678620459e0472bb0cbc5b23", func := "loop.example/g00788/laws.FnExactConfigText", spec := "fnExactConfigText", inPlace := ["internal/abi.NoEscape", "internal/bytealg.MakeNoZero"], unfollowed := true, recurses := true, apart := false, narrowed := true }
def FnExactConfigTextUptoSaid : Prop := fnExactConfigTextUptoRow.holds Try.pinned (OpenSpec.upto fnExactConfigTextSpec)

/-- 'laws.FnExactSetAttr', WHERE WHAT IT READS IS OF BULK AT MOST 1048576: true; the input reads as it did. -/
def fnExactSetAttrUptoRow : OpenClaim := { program := "ytmofbeofijlofaa", sum := "fa30b7d538fa27ec71dd7b0441af93109267efc9678620459e0472bb0cbc5b23", func := "loop.example/g00788/laws.FnExactSetAttr", spec := "fnExactSetAttr", unfollowed := true, recurses := true, loops := true, apart := false, narrowed := true }
def FnExactSetAttrUptoSaid : Prop := fnExactSetAttrUptoRow.holds Try.pinned (OpenSpec.upto fnExactSetAttrSpec)

/-- 'laws.FnExactDropAttr', WHERE WHAT IT READS IS OF BULK AT MOST 1048576: true; the input reads as it did. -/
def fnExactDropAttrUptoRow : OpenClaim := { program := "ytmofbeofijlofaa", sum := "fa30b7d538fa27ec71dd7b0441af93109267efc9678620459e0472bb0cbc5b23", func := "loop.example/g00788/laws.FnExactDropAttr", spec := "fnExactDropAttr", unfollowed := true, recurses := true, loops := true, apart := false, narrowed := true }
def FnExactDropAttrUptoSaid : Prop := fnExactDropAttrUptoRow.holds Try.pinned (OpenSpec.upto fnExactDropAttrSpec)

end Rows
end Go.Proofs.Ytmofbeofijlofaa
