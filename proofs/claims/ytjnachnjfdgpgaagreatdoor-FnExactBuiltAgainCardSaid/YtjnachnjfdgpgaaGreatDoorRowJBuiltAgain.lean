import Derived.Test.YtjnachnjfdgpgaaGreatDoorEngTd
import Derived.Test.YtjnachnjfdgpgaaGreatDoorRows
import Derived.JoinedOf
import Derived.Handy
set_option linter.all false
set_option Elab.async false
set_option maxRecDepth 100000
namespace Go.Proofs.YtjnachnjfdgpgaaGreatDoor
open Go
theorem builtAgain_j1:(Rows.fnExactBuiltAgainRow.inPlace == Tryz.pinned.checked.prog.inPlace 3)=true:=by kernel_rfl
theorem builtAgain_j2:(Rows.fnExactBuiltAgainRow.unfollowed == Tryz.pinned.checked.prog.unfollowed 3)=true:=by kernel_rfl
theorem builtAgain_j3:(Rows.fnExactBuiltAgainRow.recurses == Tryz.pinned.checked.prog.recurses 3)=true:=by kernel_rfl
theorem builtAgain_j4:(Rows.fnExactBuiltAgainRow.named == Tryz.pinned.checked.prog.varsNamed 3)=true:=by kernel_rfl
theorem builtAgain_joined:joinedFacts Tryz.pinned.checked.prog 3 Tryz.f3 Rows.fnExactBuiltAgainSpec Rows.fnExactBuiltAgainRow=true:=by
 unfold joinedFacts
 rw [builtAgain_j1,builtAgain_j2,builtAgain_j3,builtAgain_j4]
 kernel_rfl
end Go.Proofs.YtjnachnjfdgpgaaGreatDoor
