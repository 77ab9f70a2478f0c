/-
  NARROWER THAN 'FOR EVERY INPUT', by the rows' own cells (each row's printed sentence says how): FnExactPermitted: loops · FnExactSanitizedTwice: loops · FnExactRemoved: loops · FnExactSanitize: loops · FnExactSurvivors: loops.
  DERIVED. THE GIVEN ROWS OF THIS SEAT. 5 by the template 'for every input the law returns true; each argument reads behind the call as it read before'; 0 by the template 'total and deterministic' (their statements: YtnnbjffppfagkaaGreatTotals.lean).
  GIVEN WITH THE SEED: the statements are not yours to turn. If you find one false, say at which input.
  Laid BY PROGRAM, IN A SANDBOX (cutbox-rows.mjs): the forced cells as the released guide's own fill.sh prints them over the translation 712fd5c853b3c0ea… (all of the seat's roots in one cut). By AI agents, Wed Nov 11 2026. No macro, syntax, notation, axiom, sorry.
-/
import Derived.Test.YtnnbjffppfagkaaGreatChecked
import GoSem.Claim
import GoSem.ClaimJoined
import GoSem.ClaimMapViews
import Derived.JoinedTies
import Derived.KernelRfl
namespace Go.Proofs.YtnnbjffppfagkaaGreat
/- THE CELL 'sum', in the pinned program and in every row, IS THE sha256 OF THE DUMP (.gsa) THAT YtnnbjffppfagkaaGreatProg.lean LOADS. Nothing in Lean hashes anything: it is a label: what it is worth is what the hold of that sum in a sandbox is worth. -/
noncomputable def Tryz.pinned : Pinned := { name := "ytnnbjffppfagkaagreat", sum := "712fd5c853b3c0ea19fefade86b5df82da7ca5b43dc98947141b84078e363eb1", checked := Tryz.checked }
namespace Rows
def none {H : Type} : Left H := { results := [], args := [] }

/-- 'laws.FnExactPermitted': WHATEVER THE INPUT: true; the input reads as it did. -/
def fnExactPermittedSpec : ChangeSpec := { name := "fnExactPermitted", fn := fun _ => fun
  | [d1, d2] => { results := [.lit (.bool true)], args := [d1, d2] }
  | _ => none }
def fnExactPermittedRow : OpenClaim := { program := "ytnnbjffppfagkaagreat", sum := "712fd5c853b3c0ea19fefade86b5df82da7ca5b43dc98947141b84078e363eb1", func := "loop.example/g00788/laws.FnExactPermitted", spec := "fnExactPermitted", inPlace := ["internal/bytealg.IndexByteString", "internal/bytealg.IndexString"], unfollowed := true, recurses := true, named := ["internal/bytealg.MaxLen"], loops := true, apart := false }
def FnExactPermittedSaid : Prop := fnExactPermittedRow.holds Tryz.pinned (OpenSpec.ofChange fnExactPermittedSpec)

/-- ITS FALSE NEIGHBOUR: 'it returns false'. Refute it at one input. -/
def fnExactPermittedWrong : ChangeSpec := { name := "fnExactPermitted", fn := fun _ => fun
  | [d1, d2] => { results := [.lit (.bool false)], args := [d1, d2] }
  | _ => none }
def FnExactPermittedWrongFalsely : Prop := fnExactPermittedRow.holds Tryz.pinned (OpenSpec.ofChange fnExactPermittedWrong)

/-- 'laws.FnExactSanitizedTwice': WHATEVER THE INPUT: true; the input reads as it did. -/
def fnExactSanitizedTwiceSpec : ChangeSpec := { name := "fnExactSanitizedTwice", fn := fun _ => fun
  | [d1, d2] => { results := [.lit (.bool true)], args := [d1, d2] }
  | _ => none }
def fnExactSanitizedTwiceRow : OpenClaim := { program := "ytnnbjffppfagkaagreat", sum := "712fd5c853b3c0ea19fefade86b5df82da7ca5b43dc98947141b84078e363eb1", func := "loop.example/g00788/laws.FnExactSanitizedTwice", spec := "fnExactSanitizedTwice", inPlace := ["internal/bytealg.IndexByteString", "internal/bytealg.IndexString"], unfollowed := true, recurses := true, named := ["internal/bytealg.MaxLen"], loops := true, apart := false }
def FnExactSanitizedTwiceSaid : Prop := fnExactSanitizedTwiceRow.holds Tryz.pinned (OpenSpec.ofChange fnExactSanitizedTwiceSpec)

/-- ITS FALSE NEIGHBOUR: 'it returns false'. Refute it at one input. -/
def fnExactSanitizedTwiceWrong : ChangeSpec := { name := "fnExactSanitizedTwice", fn := fun _ => fun
  | [d1, d2] => { results := [.lit (.bool false)], args := [d1, d2] }
  | _ => none }
def FnExactSanitizedTwiceWrongFalsely : Prop := fnExactSanitizedTwiceRow.holds Tryz.pinned (OpenSpec.ofChange fnExactSanitizedTwiceWrong)

/-- 'laws.FnExactRemoved': WHATEVER THE INPUT: true; the input reads as it did. -/
def fnExactRemovedSpec : ChangeSpec := { name := "fnExactRemoved", fn := fun _ => fun
  | [d1, d2] => { results := [.lit (.bool true)], args := [d1, d2] }
  | _ => none }
def fnExactRemovedRow : OpenClaim := { program := "ytnnbjffppfagkaagreat", sum := "712fd5c853b3c0ea19fefade86b5df82da7ca5b43dc98947141b84078e363eb1", func := "loop.example/g00788/laws.FnExactRemoved", spec := "fnExactRemoved", inPlace := ["internal/bytealg.IndexByteString", "internal/bytealg.IndexString"], unfollowed := true, recurses := true, named := ["internal/bytealg.MaxLen"], loops := true, apart := false }
def FnExactRemovedSaid : Prop := fnExactRemovedRow.holds Tryz.pinned (OpenSpec.ofChange fnExactRemovedSpec)

/-- ITS FALSE NEIGHBOUR: 'it returns false'. Refute it at one input. -/
def fnExactRemovedWrong : ChangeSpec := { name := "fnExactRemoved", fn := fun _ => fun
  | [d1, d2] => { results := [.lit (.bool false)], args := [d1, d2] }
  | _ => none }
def FnExactRemovedWrongFalsely : Prop := fnExactRemovedRow.holds Tryz.pinned (OpenSpec.ofChange fnExactRemovedWrong)

/-- 'laws.FnExactSanitize': WHATEVER THE INPUT: true; the input reads as it did. -/
def fnExactSanitizeSpec : ChangeSpec := { name := "fnExactSanitize", fn := fun _ => fun
  | [d1, d2] => { results := [.lit (.bool true)], args := [d1, d2] }
  | _ => none }
def fnExactSanitizeRow : OpenClaim := { program := "ytnnbjffppfagkaagreat", sum := "712fd5c853b3c0ea19fefade86b5df82da7ca5b43dc98947141b84078e363eb1", func := "loop.example/g00788/laws.FnExactSanitize", spec := "fnExactSanitize", inPlace := ["internal/bytealg.IndexByteString", "internal/bytealg.IndexString"], unfollowed := true, recurses := true, named := ["internal/bytealg.MaxLen"], loops := true, apart := false }
def FnExactSanitizeSaid : Prop := fnExactSanitizeRow.holds Tryz.pinned (OpenSpec.ofChange fnExactSanitizeSpec)

/-- ITS FALSE NEIGHBOUR: 'it returns false'. Refute it at one input. -/
def fnExactSanitizeWrong : ChangeSpec := { name := "fnExactSanitize", fn := fun _ => fun
  | [d1, d2] => { results := [.lit (.bool false)], args := [d1, d2] }
  | _ => none }
def FnExactSanitizeWrongFalsely : Prop := fnExactSanitizeRow.holds Tryz.pinned (OpenSpec.ofChange fnExactSanitizeWrong)

/-- 'laws.FnExactSurvivors': WHATEVER THE INPUT: true; the input reads as it did. -/
def fnExactSurvivorsSpec : ChangeSpec := { name := "fnExactSurvivors", fn := fun _ => fun
  | [d1, d2] => { results := [.lit (.bool true)], args := [d1, d2] }
  | _ => none }
def fnExactSurvivorsRow : OpenClaim := { program := "ytnnbjffppfagkaagreat", sum := "712fd5c853b3c0ea19fefade86b5df82da7ca5b43dc98947141b84078e363eb1", func := "loop.example/g00788/laws.FnExactSurvivors", spec := "fnExactSurvivors", inPlace := ["internal/bytealg.IndexByteString", "internal/bytealg.IndexString"], unfollowed := true, recurses := true, named := ["internal/bytealg.MaxLen"], loops := true, apart := false }
def FnExactSurvivorsSaid : Prop := fnExactSurvivorsRow.holds Tryz.pinned (OpenSpec.ofChange fnExactSurvivorsSpec)

/-- ITS FALSE NEIGHBOUR: 'it returns false'. Refute it at one input. -/
def fnExactSurvivorsWrong : ChangeSpec := { name := "fnExactSurvivors", fn := fun _ => fun
  | [d1, d2] => { results := [.lit (.bool false)], args := [d1, d2] }
  | _ => none }
def FnExactSurvivorsWrongFalsely : Prop := fnExactSurvivorsRow.holds Tryz.pinned (OpenSpec.ofChange fnExactSurvivorsWrong)

/- THE SECOND FORM. 'bulk': how many values and letters a reading holds, each counted each time it is reached (what is shared counts as often as it is met; a slice's spare places count too). A statement '..UptoSaid' is the law's where the arguments, and the package variables that the reading takes, are together of bulk at most 1048576: NARROWER than '..Said'. Prove '..Said' where nothing that the law and all that it calls make is longer than what came in: it says more and counts as full. Else prove '..UptoSaid'. A law counts once. -/
mutual
def uptoBulk {H : Type} : DataW H → Nat
  | .lit (.string bytes) => bytes.length + 1
  | .lit _ => 1
  | .nil => 1
  | .ptr d => uptoBulk d + 1
  | .slice elems spare => uptoBulkAll elems + uptoBulkAll spare + 1
  | .agg parts => uptoBulkAll parts + 1
  | .iface _ d => uptoBulk d + 1
  | .map entries => uptoBulkEntries entries + 1
  | .held _ => 1
def uptoBulkAll {H : Type} : List (DataW H) → Nat
  | [] => 0
  | d :: r => uptoBulk d + uptoBulkAll r
def uptoBulkEntries {H : Type} : List (Lit × DataW H) → Nat
  | [] => 0
  | x :: r => uptoBulkEntry x + uptoBulkEntries r
def uptoBulkEntry {H : Type} : Lit × DataW H → Nat
  | (.string bytes, d) => bytes.length + uptoBulk d + 1
  | (_, d) => uptoBulk d + 1
 end
def uptoSmall : (H : Type) → List (DataW H) → Bool := fun _ ds => decide (uptoBulkAll ds ≤ 1048576)
def OpenSpec.upto (s : _root_.Go.ChangeSpec) : _root_.Go.OpenSpec := { _root_.Go.OpenSpec.ofChange s with cond := some uptoSmall }

/-- 'laws.FnExactPermitted', WHERE WHAT IT READS IS OF BULK AT MOST 1048576: true; the input reads as it did. -/
def fnExactPermittedUptoRow : OpenClaim := { program := "ytnnbjffppfagkaagreat", sum := "712fd5c853b3c0ea19fefade86b5df82da7ca5b43dc98947141b84078e363eb1", func := "loop.example/g00788/laws.FnExactPermitted", spec := "fnExactPermitted", inPlace := ["internal/bytealg.IndexByteString", "internal/bytealg.IndexString"], unfollowed := true, recurses := true, named := ["internal/bytealg.MaxLen"], loops := true, apart := false, narrowed := true }
def FnExactPermittedUptoSaid : Prop := fnExactPermittedUptoRow.holds Tryz.pinned (OpenSpec.upto fnExactPermittedSpec)

/-- 'laws.FnExactSanitizedTwice', WHERE WHAT IT READS IS OF BULK AT MOST 1048576: true; the input reads as it did. -/
def fnExactSanitizedTwiceUptoRow : OpenClaim := { program := "ytnnbjffppfagkaagreat", sum := "712fd5c853b3c0ea19fefade86b5df82da7ca5b43dc98947141b84078e363eb1", func := "loop.example/g00788/laws.FnExactSanitizedTwice", spec := "fnExactSanitizedTwice", inPlace := ["internal/bytealg.IndexByteString", "internal/bytealg.IndexString"], unfollowed := true, recurses := true, named := ["internal/bytealg.MaxLen"], loops := true, apart := false, narrowed := true }
def FnExactSanitizedTwiceUptoSaid : Prop := fnExactSanitizedTwiceUptoRow.holds Tryz.pinned (OpenSpec.upto fnExactSanitizedTwiceSpec)

/-- 'laws.FnExactRemoved', WHERE WHAT IT READS IS OF BULK AT MOST 1048576: true; the input reads as it did. -/
def fnExactRemovedUptoRow : OpenClaim := { program := "ytnnbjffppfagkaagreat", sum := "712fd5c853b3c0ea19fefade86b5df82da7ca5b43dc98947141b84078e363eb1", func := "loop.example/g00788/laws.FnExactRemoved", spec := "fnExactRemoved", inPlace := ["internal/bytealg.IndexByteString", "internal/bytealg.IndexString"], unfollowed := true, recurses := true, named := ["internal/bytealg.MaxLen"], loops := true, apart := false, narrowed := true }
def FnExactRemovedUptoSaid : Prop := fnExactRemovedUptoRow.holds Tryz.pinned (OpenSpec.upto fnExactRemovedSpec)

/-- 'laws.FnExactSanitize', WHERE WHAT IT READS IS OF BULK AT MOST 1048576: true; the input reads as it did. -/
def fnExactSanitizeUptoRow : OpenClaim := { program := "ytnnbjffppfagkaagreat", sum := "712fd5c853b3c0ea19fefade86b5df82da7ca5b43dc98947141b84078e363eb1", func := "loop.example/g00788/laws.FnExactSanitize", spec := "fnExactSanitize", inPlace := ["internal/bytealg.IndexByteString", "internal/bytealg.IndexString"], unfollowed := true, recurses := true, named := ["internal/bytealg.MaxLen"], loops := true, apart := false, narrowed := true }
def FnExactSanitizeUptoSaid : Prop := fnExactSanitizeUptoRow.holds Tryz.pinned (OpenSpec.upto fnExactSanitizeSpec)

/-- 'laws.FnExactSurvivors', WHERE WHAT IT READS IS OF BULK AT MOST 1048576: true; the input reads as it did. -/
def fnExactSurvivorsUptoRow : OpenClaim := { program := "ytnnbjffppfagkaagreat", sum := "712fd5c853b3c0ea19fefade86b5df82da7ca5b43dc98947141b84078e363eb1", func := "loop.example/g00788/laws.FnExactSurvivors", spec := "fnExactSurvivors", inPlace := ["internal/bytealg.IndexByteString", "internal/bytealg.IndexString"], unfollowed := true, recurses := true, named := ["internal/bytealg.MaxLen"], loops := true, apart := false, narrowed := true }
def FnExactSurvivorsUptoSaid : Prop := fnExactSurvivorsUptoRow.holds Tryz.pinned (OpenSpec.upto fnExactSurvivorsSpec)

end Rows
end Go.Proofs.YtnnbjffppfagkaaGreat
