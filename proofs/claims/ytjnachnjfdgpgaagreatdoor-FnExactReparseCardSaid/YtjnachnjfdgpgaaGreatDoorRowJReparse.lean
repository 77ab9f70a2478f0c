import Derived.Test.YtjnachnjfdgpgaaGreatDoorEngTd
import Derived.Test.YtjnachnjfdgpgaaGreatDoorRows
import Derived.JoinedOf
import Derived.Handy
set_option linter.all false
set_option Elab.async false
set_option maxRecDepth 100000
namespace Go.Proofs.YtjnachnjfdgpgaaGreatDoor
open Go
theorem reparse_j1:(Rows.fnExactReparseRow.inPlace == Tryz.pinned.checked.prog.inPlace 5)=true:=by kernel_rfl
theorem reparse_j2:(Rows.fnExactReparseRow.unfollowed == Tryz.pinned.checked.prog.unfollowed 5)=true:=by kernel_rfl
theorem reparse_j3:(Rows.fnExactReparseRow.recurses == Tryz.pinned.checked.prog.recurses 5)=true:=by kernel_rfl
theorem reparse_j4:(Rows.fnExactReparseRow.named == Tryz.pinned.checked.prog.varsNamed 5)=true:=by kernel_rfl
theorem reparse_joined:joinedFacts Tryz.pinned.checked.prog 5 Tryz.f5 Rows.fnExactReparseSpec Rows.fnExactReparseRow=true:=by
 unfold joinedFacts
 rw [reparse_j1,reparse_j2,reparse_j3,reparse_j4]
 kernel_rfl
end Go.Proofs.YtjnachnjfdgpgaaGreatDoor
