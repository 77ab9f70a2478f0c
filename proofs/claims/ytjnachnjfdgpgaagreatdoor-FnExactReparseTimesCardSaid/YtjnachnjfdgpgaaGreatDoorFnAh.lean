import Derived.Test.YtjnachnjfdgpgaaGreatDoorFnAg
import Derived.Test.YtjnachnjfdgpgaaGreatDoorFnAk
set_option linter.all false
set_option maxRecDepth 20000
set_option maxHeartbeats 1000000
namespace Go.Ab
open Go Go.Proofs.Tryz
open Go.Lib
theorem askT_2 {l:List Node} (h:decide ((4096:Int) < (l.length:Int))=true):askT l=2:=by
 rw [len_4096] at h;rw [askT,h];rfl
end Go.Ab
