import Derived.Test.YtjnachnjfdgpgaaGreatDoorFnSz
import Derived.Test.YtjnachnjfdgpgaaGreatDoorFnAh
import Derived.Test.YtjnachnjfdgpgaaGreatDoorFnWa
import Derived.Test.YtjnachnjfdgpgaaGreatDoorFnAk
import Derived.Test.YtjnachnjfdgpgaaGreatDoorFnBf
import Derived.Test.YtjnachnjfdgpgaaGreatDoorFnKd
set_option linter.all false
set_option maxRecDepth 20000
set_option maxHeartbeats 1000000
namespace Go.Ab
open Go Go.Proofs.Tryz
open Go.Lib
noncomputable def sp_serTk:Spec:=⟨[.sl .node,.sc],[.rd,.rd],true,fun
 | [.dat ⟨.node,l⟩,.bool raw]=>some (some (szL szNd l≤1048576∧kdNds l),.str (serNds l raw),[])
 | _=>none⟩
@[push_cast] theorem sp_serTk_s:sp_serTk.ps=[.sl .node,.sc]∧sp_serTk.modes=[.rd,.rd]∧sp_serTk.pure=true:=⟨rfl,rfl,rfl⟩
@[push_cast] theorem sp_serTk_run (l:List Node) (raw:Bool):sp_serTk.run [.dat ⟨.node,l⟩,.bool raw]=some (some (szL szNd l≤1048576∧kdNds l),.str (serNds l raw),[]):=rfl
theorem r_serI:∀ z,CRow P0 ety0 59 (sp_serI z)
 | 0=>.absurd (fun args p r outs h hq=>by
   simp only [sp_serI] at h;split at h<;>cases h
   exact absurd (hq _ rfl).1 (Nat.not_lt_zero _)) (ent_of func59 rfl rfl)
 | z+1=>c_serialize_ z (r_serI z)
theorem c_serTi:CRow P0 ety0 59 sp_serTk:=.all (spn:=sp_serI) (fun _=>rfl) r_serI (fun args p r outs h hq=>by
 simp only [sp_serTk] at h;split at h<;>cases h
 rename_i l raw
 exact ⟨szNds l+1,_,rfl,fun q hq'=>by cases hq';exact ⟨Nat.lt_succ_self _,hq _ rfl⟩⟩)
noncomputable def sp_agnK:Spec:=⟨[.sl .node],[.rd],false,fun
 | [.dat ⟨.node,l⟩]=>some (some (szL szNd l≤1048576∧kdNds l),.tup [.own true ⟨.node,(agn l).1⟩,.int .i64 (agn l).2],[])
 | _=>none⟩
@[push_cast] theorem sp_agnK_s:sp_agnK.ps=[.sl .node]∧sp_agnK.modes=[.rd]∧sp_agnK.pure=false:=⟨rfl,rfl,rfl⟩
@[push_cast] theorem sp_agnK_run (l:List Node):sp_agnK.run [.dat ⟨.node,l⟩]=some (some (szL szNd l≤1048576∧kdNds l),.tup [.own true ⟨.node,(agn l).1⟩,.int .i64 (agn l).2],[]):=rfl
noncomputable def e_agnI:Env:=mk [(59,sp_serTk),(33,sp_build)] [] [] [] none
@[push_cast] theorem e_agnI_e:MkE e_agnI [(59,sp_serTk),(33,sp_build)] [] [] [] none:=⟨rfl,rfl,rfl,rfl,rfl,rfl,rfl⟩
theorem c_agnI:CRow P0 ety0 41 sp_agnK:=CRow.of (E:=e_agnI) (mkOk (.cons c_serTi (.cons c_build (.nil)))) func41 rfl rfl rfl (by
 intro args p r outs h hq
 simp only [sp_agnK] at h;split at h<;>cases h
 rename_i l
 have hz:=hq _ rfl
 refine Body.intro (rs:=[.tmp 2,.tmp 3]) rfl rfl rfl ?_
 apply vc_run 1000 (stop:=false) rfl;simp only [push_cast,simprocAttr]
 have:=serNds_sz (raw:=false) hz.1
 exact ⟨hz,by omega,rfl⟩)
end Go.Ab
