import Derived.Test.YtjnachnjfdgpgaaGreatDoorFnD
set_option linter.all false
set_option maxRecDepth 20000
set_option maxHeartbeats 1000000
namespace Go.Ab
open Go Go.Proofs.Tryz
def escC (c:UInt8):Str:=if c=38 then [38,97,109,112,59] else if c=60 then [38,108,116,59] else if c=62 then [38,103,116,59] else [c]
def escT (t:Str):Str:=t.flatMap escC
def escQ (c:UInt8):Str:=if c=34 then [38,113,117,111,116,59] else escC c
def escV (t:Str):Str:=t.flatMap escQ
theorem escC_len (c:UInt8):(escC c).length≤5:=by
 unfold escC
 repeat' split
 all_goals exact (by simp)
theorem escQ_len (c:UInt8):(escQ c).length≤6:=by
 unfold escQ;split
 ·decide
 ·exact Nat.le_succ_of_le (escC_len c)
theorem flatMap_len {f:UInt8→Str} {n:Nat} (h:∀ c,(f c).length≤n):∀ t:Str,(t.flatMap f).length≤n * t.length
 | []=>Nat.zero_le _
 | c :: r=>by
  have h1:=h c
  have h2:=flatMap_len h r
  rw [List.flatMap_cons,List.length_append,List.length_cons,Nat.mul_succ];omega
theorem take_flat {f:UInt8→Str} {t:Str} {i:Nat} (h:i < t.length):(t.take (i+1)).flatMap f=(t.take i).flatMap f++f (t.getD i 0):=by
 rw [List.take_succ_eq_append_getElem h,List.flatMap_append]
 simp [List.getD,h]
end Go.Ab
