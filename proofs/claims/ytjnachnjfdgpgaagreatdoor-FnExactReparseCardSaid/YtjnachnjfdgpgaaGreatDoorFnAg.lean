import Derived.Test.YtjnachnjfdgpgaaGreatDoorFnSe
import Derived.Test.YtjnachnjfdgpgaaGreatDoorFnWa
set_option linter.all false
set_option maxRecDepth 20000
set_option maxHeartbeats 1000000
namespace Go.Ab
open Go Go.Proofs.Tryz
open Go.Lib
noncomputable def sp_serT:Spec:=⟨[.sl .node,.sc],[.rd,.rd],true,fun
 | [.dat ⟨.node,l⟩,.bool raw]=>some (some (szL szNd l≤1048576),.str (serNds l raw),[])
 | _=>none⟩
@[push_cast] theorem sp_serT_s:sp_serT.ps=[.sl .node,.sc]∧sp_serT.modes=[.rd,.rd]∧sp_serT.pure=true:=⟨rfl,rfl,rfl⟩
@[push_cast] theorem sp_serT_run (l:List Node) (raw:Bool):sp_serT.run [.dat ⟨.node,l⟩,.bool raw]=some (some (szL szNd l≤1048576),.str (serNds l raw),[]):=rfl
theorem r_serNds:∀ z,CRow P0 ety0 54 (sp_serNds z)
 | 0=>.absurd (fun args p r outs h hq=>by
   simp only [sp_serNds] at h;split at h<;>cases h
   exact absurd (hq _ rfl).1 (Nat.not_lt_zero _)) (ent_of func54 rfl rfl)
 | z+1=>c_l06Tree_ z (r_serNds z)
theorem c_serT2:CRow P0 ety0 54 sp_serT:=.all (spn:=sp_serNds) (fun _=>rfl) r_serNds (fun args p r outs h hq=>by
 simp only [sp_serT] at h;split at h<;>cases h
 rename_i l raw
 exact ⟨szNds l+1,_,rfl,fun q hq'=>by cases hq';exact ⟨Nat.lt_succ_self _,hq _ rfl⟩⟩)
def agn (l:List Node):List Node × Int:=buildP (serNds l false)
theorem agn_sz (l:List Node):szL szNd (agn l).1≤27511:=buildP_sz _
theorem serNds_sz {l:List Node} {raw:Bool} (h:szL szNd l≤1048576):(serNds l raw).length≤12582912:=by
 have:=serNds_len l raw
 rw [szNds_eq] at this;omega
noncomputable def sp_agn:Spec:=⟨[.sl .node],[.rd],false,fun
 | [.dat ⟨.node,l⟩]=>some (some (szL szNd l≤1048576),.tup [.own true ⟨.node,(agn l).1⟩,.int .i64 (agn l).2],[])
 | _=>none⟩
@[push_cast] theorem sp_agn_s:sp_agn.ps=[.sl .node]∧sp_agn.modes=[.rd]∧sp_agn.pure=false:=⟨rfl,rfl,rfl⟩
@[push_cast] theorem sp_agn_run (l:List Node):sp_agn.run [.dat ⟨.node,l⟩]=some (some (szL szNd l≤1048576),.tup [.own true ⟨.node,(agn l).1⟩,.int .i64 (agn l).2],[]):=rfl
noncomputable def e_agn2:Env:=mk [(54,sp_serT),(29,sp_buildQ)] [] [] [] none
@[push_cast] theorem e_agn2_e:e_agn2.inl=inlF []∧e_agn2.fnd=fndF none∧e_agn2.gh=ghOf []∧e_agn2.dr=drOf []∧e_agn2.td=td∧e_agn2.eqt=eqt∧e_agn2.cal=calOf [(54,sp_serT),(29,sp_buildQ)]:=⟨rfl,rfl,rfl,rfl,rfl,rfl,rfl⟩
theorem c_agn2:CRow P0 ety0 30 sp_agn:=CRow.of (E:=e_agn2) (mkOk (.cons c_serT2 (.cons c_buildQ (.nil)))) func30 rfl rfl rfl (by
 intro args p r outs h hq
 simp only [sp_agn] at h;split at h<;>cases h
 rename_i l
 have hz:=hq _ rfl
 refine Body.intro (rs:=[.tmp 2,.tmp 3]) rfl rfl rfl ?_
 apply vc_run 1000 (stop:=false) rfl;simp only [push_cast,simprocAttr]
 unfold agn buildP
 refine ⟨hz,fun h=>?_,fun h=>?_⟩
 ·rw [if_pos (by have:=of_decide_eq_true h;omega)]
 ·have h4:¬ 4096 < (serNds l false).length:=by have:=of_decide_eq_false h;omega
  rw [if_neg h4]
  exact ⟨by omega,rfl⟩)
theorem eqB_flip (a b:List Node):eqB a b=eqB b a:=by
 by_cases h:a=b
 ·rw [h]
 ·rw [eqB_ne h,eqB_ne (fun e=>h e.symm)]
noncomputable def stb (l:List Node):Bool × Int:=(decide ((agn l).2=0) && eqB (agn l).1 l,(agn l).2)
noncomputable def bag (t:Str):Bool × Int:=if 65536 < t.length then (false,2) else if (buildP t).2≠0 then (false,(buildP t).2) else stb (buildP t).1
noncomputable def sp_bag:Spec:=⟨[.sc],[.rd],true,fun
 | [.str t]=>some (some (t.length≤9223372036854775807),.tup [.bool (bag t).1,.int .i64 (bag t).2],[])
 | _=>none⟩
@[push_cast] theorem sp_bag_s:sp_bag.ps=[.sc]∧sp_bag.modes=[.rd]∧sp_bag.pure=true:=⟨rfl,rfl,rfl⟩
@[push_cast] theorem sp_bag_run (t:Str):sp_bag.run [.str t]=some (some (t.length≤9223372036854775807),.tup [.bool (bag t).1,.int .i64 (bag t).2],[]):=rfl
noncomputable def e_bag2:Env:=mk [(29,sp_buildQ),(30,sp_agn),(31,sp_areAlike)] [] [] [] none
@[push_cast] theorem e_bag2_e:e_bag2.inl=inlF []∧e_bag2.fnd=fndF none∧e_bag2.gh=ghOf []∧e_bag2.dr=drOf []∧e_bag2.td=td∧e_bag2.eqt=eqt∧e_bag2.cal=calOf [(29,sp_buildQ),(30,sp_agn),(31,sp_areAlike)]:=⟨rfl,rfl,rfl,rfl,rfl,rfl,rfl⟩
theorem c_bag2:CRow P0 ety0 9 sp_bag:=CRow.of (E:=e_bag2) (mkOk (.cons c_buildQ (.cons c_agn2 (.cons c_l03Same (.nil))))) func9 rfl rfl rfl (by
 intro args p r outs h hq
 simp only [sp_bag] at h;split at h<;>cases h
 rename_i t
 have hs:=hq _ rfl
 refine Body.intro (rs:=[.tmp 2,.tmp 3]) rfl rfl rfl ?_
 apply vc_run 1000 (stop:=false) rfl;simp only [push_cast,simprocAttr]
 have hb:=build_sz t
 have ha:=agn_sz (buildR t).1
 refine ⟨fun h=>?_,fun h=>⟨fun h2=>?_,fun h2=>?_⟩⟩
 ·rw [bag,if_pos (by have:=of_decide_eq_true h;omega)]
 ·have hp:buildP t=([],8):=by rw [buildP,if_pos (by have:=of_decide_eq_true h2;omega)]
  rw [bag,if_neg (by have:=of_decide_eq_false h;omega),hp,if_pos (by decide)]
 ·have h4:¬ 4096 < t.length:=by have:=of_decide_eq_false h2;omega
  have hp:buildP t=buildR t:=by rw [buildP,if_neg h4]
  rw [bag,if_neg (by have:=of_decide_eq_false h;omega),hp]
  refine ⟨by omega,fun g=>?_,fun g=>?_⟩
  ·rw [if_pos (by simpa using g)]
  ·rw [if_neg (by simpa using g)]
   refine ⟨by omega,fun _=>by omega,?_⟩
   unfold stb
   cases decide ((agn (buildR t).1).2=0)<;>rfl)
end Go.Ab
