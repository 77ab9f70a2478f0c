import Derived.Test.YtjnachnjfdgpgaaGreatDoorFnSe
import Derived.Test.YtjnachnjfdgpgaaGreatDoorFnWa
set_option linter.all false
set_option maxRecDepth 20000
set_option maxHeartbeats 1000000
namespace Go.Ab
open Go Go.Proofs.Tryz
open Go.Lib
noncomputable def sp_serT:Spec:=⟨[.sl .node,.sc],[.rd,.rd],true,fun
 | [.dat ⟨.node,l⟩,.bool raw]=>some (some (szL szNd l≤1048576),.str (serNds l raw),[])
 | _=>none⟩
@[push_cast] theorem sp_serT_s:sp_serT.ps=[.sl .node,.sc]∧sp_serT.modes=[.rd,.rd]∧sp_serT.pure=true:=⟨rfl,rfl,rfl⟩
@[push_cast] theorem sp_serT_run (l:List Node) (raw:Bool):sp_serT.run [.dat ⟨.node,l⟩,.bool raw]=some (some (szL szNd l≤1048576),.str (serNds l raw),[]):=rfl
theorem r_serNds:∀ z,CRow P0 ety0 54 (sp_serNds z)
 | 0=>.absurd (fun args p r outs h hq=>by
   simp only [sp_serNds] at h;split at h<;>cases h
   exact absurd (hq _ rfl).1 (Nat.not_lt_zero _)) (ent_of func54 rfl rfl)
 | z+1=>c_l06Tree_ z (r_serNds z)
theorem c_serT2:CRow P0 ety0 54 sp_serT:=.all (spn:=sp_serNds) (fun _=>rfl) r_serNds (fun args p r outs h hq=>by
 simp only [sp_serT] at h;split at h<;>cases h
 rename_i l raw
 exact ⟨szNds l+1,_,rfl,fun q hq'=>by cases hq';exact ⟨Nat.lt_succ_self _,hq _ rfl⟩⟩)
def agn (l:List Node):List Node × Int:=buildP (serNds l false)
theorem agn_sz (l:List Node):szL szNd (agn l).1≤27511:=buildP_sz _
theorem serNds_sz {l:List Node} {raw:Bool} (h:szL szNd l≤1048576):(serNds l raw).length≤12582912:=by
 have:=serNds_len l raw
 rw [szNds_eq] at this;omega
noncomputable def sp_agn:Spec:=⟨[.sl .node],[.rd],false,fun
 | [.dat ⟨.node,l⟩]=>some (some (szL szNd l≤1048576),.tup [.own true ⟨.node,(agn l).1⟩,.int .i64 (agn l).2],[])
 | _=>none⟩
@[push_cast] theorem sp_agn_s:sp_agn.ps=[.sl .node]∧sp_agn.modes=[.rd]∧sp_agn.pure=false:=⟨rfl,rfl,rfl⟩
@[push_cast] theorem sp_agn_run (l:List Node):sp_agn.run [.dat ⟨.node,l⟩]=some (some (szL szNd l≤1048576),.tup [.own true ⟨.node,(agn l).1⟩,.int .i64 (agn l).2],[]):=rfl
noncomputable def e_agn2:Env:=mk [(54,sp_serT),(29,sp_buildQ)] [] [] [] none
@[push_cast] theorem e_agn2_e:MkE e_agn2 [(54,sp_serT),(29,sp_buildQ)] [] [] [] none:=⟨rfl,rfl,rfl,rfl,rfl,rfl,rfl⟩
theorem c_agn2:CRow P0 ety0 30 sp_agn:=CRow.of (E:=e_agn2) (mkOk (.cons c_serT2 (.cons c_buildQ (.nil)))) func30 rfl rfl rfl (by
 intro args p r outs h hq
 simp only [sp_agn] at h;split at h<;>cases h
 rename_i l
 have hz:=hq _ rfl
 refine Body.intro (rs:=[.tmp 2,.tmp 3]) rfl rfl rfl ?_
 apply vc_run 1000 (stop:=false) rfl;simp only [push_cast,simprocAttr]
 unfold agn buildP
 refine ⟨hz,fun h=>?_,fun h=>?_⟩
 ·rw [if_pos (by have:=of_decide_eq_true h;omega)]
 ·have h4:¬ 4096 < (serNds l false).length:=by have:=of_decide_eq_false h;omega
  rw [if_neg h4]
  exact ⟨by omega,rfl⟩)
end Go.Ab
