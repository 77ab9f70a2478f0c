import Derived.Test.YtjnachnjfdgpgaaGreatDoorFnSe
import Derived.Test.YtjnachnjfdgpgaaGreatDoorLibRq
set_option linter.all false
set_option maxRecDepth 20000
set_option maxHeartbeats 1000000
namespace Go.Ab
open Go Go.Proofs.Tryz
open Go.Lib
noncomputable def e_startSi:Env:=mk [(174,sp_escVi)] [(5,[],[(true,[0,1,2,3,4,5,6,7,8,9,10,11],[])])] [] [] none
@[push_cast] theorem e_startSi_e:MkE e_startSi [(174,sp_escVi)] [(5,[],[(true,[0,1,2,3,4,5,6,7,8,9,10,11],[])])] [] [] none:=⟨rfl,rfl,rfl,rfl,rfl,rfl,rfl⟩
theorem c_startSi:CRow P0 ety0 103 sp_startS:=CRow.of (E:=e_startSi) (mkOk (.cons c_escVi (.nil))) func103 rfl rfl rfl (by
 intro args p r outs h hq
 simp only [sp_startS] at h;split at h<;>cases h
 rename_i k s m t a ks
 have hz:=hq _ rfl
 rw [szNd_mk] at hz
 refine Body.intro (rs:=[.tmp 2]) rfl rfl rfl ?_
 apply vc_run 1000 (stop:=false) rfl;simp only [push_cast,simprocAttr]
 have hal:=szL_len szAt a
 refine ⟨by omega,?_⟩
 refine Run.loop [3,12] [10,11] [0] rfl (fun n vs bs=>∃ i:Nat,vs=[.str ((60 :: m)++(a.take i).flatMap atS),.int .i64 i]∧bs=[[.int .i64 k,.int .i64 s,.str m,.str t,.dat ⟨.attr,a⟩,.dat ⟨.node,ks⟩]]∧i≤a.length∧n=a.length - i) a.length ?_ ?_
 ·simp only [push_cast,simprocAttr]
  exact ⟨0,by simp,by omega,by omega⟩
 rintro n vs bs ⟨i,rfl,rfl,hi,rfl⟩
 simp only [push_cast,simprocAttr]
 apply vc_run 1000 (stop:=false) rfl;simp only [push_cast,simprocAttr]
 have hfl:=ats_len (a.take i)
 have hst:=szL_take szAt a i
 refine ⟨fun h=>?_,fun h=>?_⟩
 ·have hlt:i < a.length:=by have:=of_decide_eq_true h;omega
  have hel:=szL_at1 szAt attrD hlt
  have hev:=escV_len (a.getD i attrD).value
  have htk:a.take (i+1)=a.take i++[a.getD i attrD]:=by
   rw [List.take_succ_eq_append_getElem hlt];simp [List.getD,hlt]
  have hsa:szAt (a.getD i attrD)=(a.getD i attrD).name.length+(a.getD i attrD).value.length:=rfl
  simp only [gd_nat]
  refine ⟨⟨by omega,by omega⟩,by omega,by omega,by omega,by omega,by omega,by omega,by constructor<;>omega,a.length - (i+1),by omega,i+1,?_,by omega,rfl⟩
  rw [htk,List.flatMap_append,List.flatMap_cons,List.flatMap_nil,List.append_nil]
  simp [atS]
 ·have hge:i=a.length:=by have:=of_decide_eq_false h;omega
  subst hge
  rw [List.take_length] at hfl ⊢
  exact ⟨by omega,by simp [startS]⟩)
end Go.Ab
