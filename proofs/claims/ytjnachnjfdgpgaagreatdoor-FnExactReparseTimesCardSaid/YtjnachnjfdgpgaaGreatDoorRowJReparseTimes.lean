import Derived.Test.YtjnachnjfdgpgaaGreatDoorEngTd
import Derived.Test.YtjnachnjfdgpgaaGreatDoorRows
import Derived.JoinedOf
import Derived.Handy
set_option linter.all false
set_option Elab.async false
set_option maxRecDepth 100000
namespace Go.Proofs.YtjnachnjfdgpgaaGreatDoor
open Go
theorem reparseTimes_j1:(Rows.fnExactReparseTimesRow.inPlace == Tryz.pinned.checked.prog.inPlace 6)=true:=by kernel_rfl
theorem reparseTimes_j2:(Rows.fnExactReparseTimesRow.unfollowed == Tryz.pinned.checked.prog.unfollowed 6)=true:=by kernel_rfl
theorem reparseTimes_j3:(Rows.fnExactReparseTimesRow.recurses == Tryz.pinned.checked.prog.recurses 6)=true:=by kernel_rfl
theorem reparseTimes_j4:(Rows.fnExactReparseTimesRow.named == Tryz.pinned.checked.prog.varsNamed 6)=true:=by kernel_rfl
theorem reparseTimes_joined:joinedFacts Tryz.pinned.checked.prog 6 Tryz.f6 Rows.fnExactReparseTimesSpec Rows.fnExactReparseTimesRow=true:=by
 unfold joinedFacts
 rw [reparseTimes_j1,reparseTimes_j2,reparseTimes_j3,reparseTimes_j4]
 kernel_rfl
end Go.Proofs.YtjnachnjfdgpgaaGreatDoor
