import Derived.Test.YtjnachnjfdgpgaaGreatDoorFnBz
import Derived.Test.YtjnachnjfdgpgaaGreatDoorFnCo
import Derived.Test.YtjnachnjfdgpgaaGreatDoorFnA
set_option linter.all false
set_option maxRecDepth 20000
set_option maxHeartbeats 1000000
namespace Go.Ab
open Go Go.Proofs.Tryz
open Go.Lib
theorem buildP_sz (t:Str):szL szNd (buildP t).1≤27511:=by
 unfold buildP
 split
 ·exact Nat.zero_le _
 ·exact build_sz t
end Go.Ab
