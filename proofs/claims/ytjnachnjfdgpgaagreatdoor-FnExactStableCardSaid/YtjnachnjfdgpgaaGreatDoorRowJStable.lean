import Derived.Test.YtjnachnjfdgpgaaGreatDoorEngTd
import Derived.Test.YtjnachnjfdgpgaaGreatDoorRows
import Derived.JoinedOf
import Derived.Handy
set_option linter.all false
set_option Elab.async false
set_option maxRecDepth 100000
namespace Go.Proofs.YtjnachnjfdgpgaaGreatDoor
open Go
theorem stable_j1:(Rows.fnExactStableRow.inPlace == Tryz.pinned.checked.prog.inPlace 4)=true:=by kernel_rfl
theorem stable_j2:(Rows.fnExactStableRow.unfollowed == Tryz.pinned.checked.prog.unfollowed 4)=true:=by kernel_rfl
theorem stable_j3:(Rows.fnExactStableRow.recurses == Tryz.pinned.checked.prog.recurses 4)=true:=by kernel_rfl
theorem stable_j4:(Rows.fnExactStableRow.named == Tryz.pinned.checked.prog.varsNamed 4)=true:=by kernel_rfl
theorem stable_joined:joinedFacts Tryz.pinned.checked.prog 4 Tryz.f4 Rows.fnExactStableSpec Rows.fnExactStableRow=true:=by
 unfold joinedFacts
 rw [stable_j1,stable_j2,stable_j3,stable_j4]
 kernel_rfl
end Go.Proofs.YtjnachnjfdgpgaaGreatDoor
