import Derived.Test.YtjnachnjfdgpgaaGreatDoorFnSz
import Derived.Test.YtjnachnjfdgpgaaGreatDoorFnAh
import Derived.Test.YtjnachnjfdgpgaaGreatDoorFnWa
import Derived.Test.YtjnachnjfdgpgaaGreatDoorFnAk
import Derived.Test.YtjnachnjfdgpgaaGreatDoorFnBf
import Derived.Test.YtjnachnjfdgpgaaGreatDoorFnKd
set_option linter.all false
set_option maxRecDepth 20000
set_option maxHeartbeats 1000000
namespace Go.Ab
open Go Go.Proofs.Tryz
open Go.Lib
noncomputable def sp_serTk:Spec:=⟨[.sl .node,.sc],[.rd,.rd],true,fun
 | [.dat ⟨.node,l⟩,.bool raw]=>some (some (szL szNd l≤1048576∧kdNds l),.str (serNds l raw),[])
 | _=>none⟩
@[push_cast] theorem sp_serTk_s:sp_serTk.ps=[.sl .node,.sc]∧sp_serTk.modes=[.rd,.rd]∧sp_serTk.pure=true:=⟨rfl,rfl,rfl⟩
@[push_cast] theorem sp_serTk_run (l:List Node) (raw:Bool):sp_serTk.run [.dat ⟨.node,l⟩,.bool raw]=some (some (szL szNd l≤1048576∧kdNds l),.str (serNds l raw),[]):=rfl
theorem r_serI:∀ z,CRow P0 ety0 59 (sp_serI z)
 | 0=>.absurd (fun args p r outs h hq=>by
   simp only [sp_serI] at h;split at h<;>cases h
   exact absurd (hq _ rfl).1 (Nat.not_lt_zero _)) (ent_of func59 rfl rfl)
 | z+1=>c_serialize_ z (r_serI z)
theorem c_serTi:CRow P0 ety0 59 sp_serTk:=.all (spn:=sp_serI) (fun _=>rfl) r_serI (fun args p r outs h hq=>by
 simp only [sp_serTk] at h;split at h<;>cases h
 rename_i l raw
 exact ⟨szNds l+1,_,rfl,fun q hq'=>by cases hq';exact ⟨Nat.lt_succ_self _,hq _ rfl⟩⟩)
noncomputable def sp_agnK:Spec:=⟨[.sl .node],[.rd],false,fun
 | [.dat ⟨.node,l⟩]=>some (some (szL szNd l≤1048576∧kdNds l),.tup [.own true ⟨.node,(agn l).1⟩,.int .i64 (agn l).2],[])
 | _=>none⟩
@[push_cast] theorem sp_agnK_s:sp_agnK.ps=[.sl .node]∧sp_agnK.modes=[.rd]∧sp_agnK.pure=false:=⟨rfl,rfl,rfl⟩
@[push_cast] theorem sp_agnK_run (l:List Node):sp_agnK.run [.dat ⟨.node,l⟩]=some (some (szL szNd l≤1048576∧kdNds l),.tup [.own true ⟨.node,(agn l).1⟩,.int .i64 (agn l).2],[]):=rfl
noncomputable def e_agnI:Env:=mk [(59,sp_serTk),(33,sp_build)] [] [] [] none
@[push_cast] theorem e_agnI_e:e_agnI.inl=inlF []∧e_agnI.fnd=fndF none∧e_agnI.gh=ghOf []∧e_agnI.dr=drOf []∧e_agnI.td=td∧e_agnI.eqt=eqt∧e_agnI.cal=calOf [(59,sp_serTk),(33,sp_build)]:=⟨rfl,rfl,rfl,rfl,rfl,rfl,rfl⟩
theorem c_agnI:CRow P0 ety0 41 sp_agnK:=CRow.of (E:=e_agnI) (mkOk (.cons c_serTi (.cons c_build (.nil)))) func41 rfl rfl rfl (by
 intro args p r outs h hq
 simp only [sp_agnK] at h;split at h<;>cases h
 rename_i l
 have hz:=hq _ rfl
 refine Body.intro (rs:=[.tmp 2,.tmp 3]) rfl rfl rfl ?_
 apply vc_run 1000 (stop:=false) rfl;simp only [push_cast,simprocAttr]
 have:=serNds_sz (raw:=false) hz.1
 exact ⟨hz,by omega,rfl⟩)
noncomputable def sp_stbK:Spec:=⟨[.sl .node],[.rd],true,fun
 | [.dat ⟨.node,l⟩]=>some (some (szL szNd l≤1048576∧kdNds l),.tup [.bool (stb l).1,.int .i64 (stb l).2],[])
 | _=>none⟩
@[push_cast] theorem sp_stbK_s:sp_stbK.ps=[.sl .node]∧sp_stbK.modes=[.rd]∧sp_stbK.pure=true:=⟨rfl,rfl,rfl⟩
@[push_cast] theorem sp_stbK_run (l:List Node):sp_stbK.run [.dat ⟨.node,l⟩]=some (some (szL szNd l≤1048576∧kdNds l),.tup [.bool (stb l).1,.int .i64 (stb l).2],[]):=rfl
noncomputable def e_stbI:Env:=mk [(41,sp_agnK),(76,sp_areAlike)] [] [] [] none
@[push_cast] theorem e_stbI_e:e_stbI.inl=inlF []∧e_stbI.fnd=fndF none∧e_stbI.gh=ghOf []∧e_stbI.dr=drOf []∧e_stbI.td=td∧e_stbI.eqt=eqt∧e_stbI.cal=calOf [(41,sp_agnK),(76,sp_areAlike)]:=⟨rfl,rfl,rfl,rfl,rfl,rfl,rfl⟩
theorem c_stbI:CRow P0 ety0 34 sp_stbK:=CRow.of (E:=e_stbI) (mkOk (.cons c_agnI (.cons c_areAlike (.nil)))) func34 rfl rfl rfl (by
 intro args p r outs h hq
 simp only [sp_stbK] at h;split at h<;>cases h
 rename_i l
 have hz:=hq _ rfl
 refine Body.intro (rs:=[.tmp 2,.tmp 3]) rfl rfl rfl ?_
 apply vc_run 1000 (stop:=false) rfl;simp only [push_cast,simprocAttr]
 have ha:=agn_sz l
 refine ⟨hz,fun _=>hz.1,?_⟩
 unfold stb
 rw [eqB_flip]
 cases decide ((agn l).2=0)<;>rfl)
noncomputable def e_stbFI:Env:=mk [(38,sp_askT),(34,sp_stbK)] [] [] [] none
@[push_cast] theorem e_stbFI_e:e_stbFI.inl=inlF []∧e_stbFI.fnd=fndF none∧e_stbFI.gh=ghOf []∧e_stbFI.dr=drOf []∧e_stbFI.td=td∧e_stbFI.eqt=eqt∧e_stbFI.cal=calOf [(38,sp_askT),(34,sp_stbK)]:=⟨rfl,rfl,rfl,rfl,rfl,rfl,rfl⟩
theorem c_stbFI:CRow P0 ety0 14 sp_stbF:=CRow.of (E:=e_stbFI) (mkOk (.cons c_fault (.cons c_stbI (.nil)))) func14 rfl rfl rfl (by
 intro args p r outs h hq
 simp only [sp_stbF] at h;split at h<;>cases h
 rename_i l
 have hz:=hq _ rfl
 refine Body.intro (rs:=[.tmp 2,.tmp 3]) rfl rfl rfl ?_
 apply vc_run 1000 (stop:=false) rfl;simp only [push_cast,simprocAttr]
 refine ⟨hz,fun g=>?_,fun g=>?_⟩
 ·rw [stbF,if_pos (by simpa using g)]
 ·rw [stbF,if_neg (by simpa using g)]
  exact ⟨⟨hz,askT_kd (by simpa using g)⟩,rfl⟩)
noncomputable def e_bagI:Env:=mk [(32,sp_isLong),(33,sp_build),(34,sp_stbK)] [] [] [] none
@[push_cast] theorem e_bagI_e:e_bagI.inl=inlF []∧e_bagI.fnd=fndF none∧e_bagI.gh=ghOf []∧e_bagI.dr=drOf []∧e_bagI.td=td∧e_bagI.eqt=eqt∧e_bagI.cal=calOf [(32,sp_isLong),(33,sp_build),(34,sp_stbK)]:=⟨rfl,rfl,rfl,rfl,rfl,rfl,rfl⟩
theorem c_bagI:CRow P0 ety0 10 sp_bag:=CRow.of (E:=e_bagI) (mkOk (.cons c_isLong (.cons c_build (.cons c_stbI (.nil))))) func10 rfl rfl rfl (by
 intro args p r outs h hq
 simp only [sp_bag] at h;split at h<;>cases h
 rename_i t
 have hs:=hq _ rfl
 refine Body.intro (rs:=[.tmp 2,.tmp 3]) rfl rfl rfl ?_
 apply vc_run 1000 (stop:=false) rfl;simp only [push_cast,simprocAttr]
 rw [isLong_one]
 have hb:=buildP_sz t
 refine ⟨fun h=>?_,fun h=>⟨?_,fun g=>?_,fun g=>?_⟩⟩
 ·rw [bag,if_pos (of_decide_eq_true h)]
 ·have:=of_decide_eq_false h;omega
 ·rw [bag,if_neg (of_decide_eq_false h),if_pos (by simpa using g)]
 ·rw [bag,if_neg (of_decide_eq_false h),if_neg (by simpa using g)]
  exact ⟨⟨by omega,buildP_kd t⟩,rfl⟩)
noncomputable def e_rpsFI:Env:=mk [(38,sp_askT),(41,sp_agnK)] [] [(2000000,[.nil .node 2])] [] none
@[push_cast] theorem e_rpsFI_e:e_rpsFI.inl=inlF []∧e_rpsFI.fnd=fndF none∧e_rpsFI.gh=ghOf [(2000000,[.nil .node 2])]∧e_rpsFI.dr=drOf []∧e_rpsFI.td=td∧e_rpsFI.eqt=eqt∧e_rpsFI.cal=calOf [(38,sp_askT),(41,sp_agnK)]:=⟨rfl,rfl,rfl,rfl,rfl,rfl,rfl⟩
theorem c_rpsFI:CRow P0 ety0 17 sp_rpsF:=CRow.of (E:=e_rpsFI) (mkOk (.cons c_fault (.cons c_agnI (.nil)))) func17 rfl rfl rfl (by
 intro args p r outs h hq
 simp only [sp_rpsF] at h;split at h<;>cases h
 rename_i l
 have hz:=hq _ rfl
 refine Body.intro (rs:=[.tmp 2,.tmp 3]) rfl rfl rfl ?_
 apply vc_run 1000 (stop:=false) rfl;simp only [push_cast,simprocAttr]
 refine ⟨hz,fun g=>?_,fun g=>?_⟩
 ·rw [rpsF,if_pos (by simpa using g)]
 ·rw [rpsF,if_neg (by simpa using g)]
  exact ⟨⟨hz,askT_kd (by simpa using g)⟩,rfl⟩)
noncomputable def sp_lawBuiltAgain:Spec:=⟨[.sc],[.rd],true,fun
 | [.str t]=>some (some (t.length≤9223372036854775807),.bool true,[])
 | _=>none⟩
@[push_cast] theorem sp_lawBuiltAgain_s:sp_lawBuiltAgain.ps=[.sc]∧sp_lawBuiltAgain.modes=[.rd]∧sp_lawBuiltAgain.pure=true:=⟨rfl,rfl,rfl⟩
@[push_cast] theorem sp_lawBuiltAgain_run (t:Str):sp_lawBuiltAgain.run [.str t]=some (some (t.length≤9223372036854775807),.bool true,[]):=rfl
noncomputable def e_lawBuiltAgain:Env:=mk [(10,sp_bag),(9,sp_bag)] [] [] [] none
@[push_cast] theorem e_lawBuiltAgain_e:e_lawBuiltAgain.inl=inlF []∧e_lawBuiltAgain.fnd=fndF none∧e_lawBuiltAgain.gh=ghOf []∧e_lawBuiltAgain.dr=drOf []∧e_lawBuiltAgain.td=td∧e_lawBuiltAgain.eqt=eqt∧e_lawBuiltAgain.cal=calOf [(10,sp_bag),(9,sp_bag)]:=⟨rfl,rfl,rfl,rfl,rfl,rfl,rfl⟩
theorem c_lawBuiltAgain:CRow P0 ety0 3 sp_lawBuiltAgain:=CRow.of (E:=e_lawBuiltAgain) (mkOk (.cons c_bagI (.cons c_bag2 (.nil)))) func3 rfl rfl rfl (by
 intro args p r outs h hq
 simp only [sp_lawBuiltAgain] at h;split at h<;>cases h
 rename_i t
 have hs:=hq _ rfl
 refine Body.intro (rs:=[.tmp 2]) rfl rfl rfl ?_
 apply vc_run 1000 (stop:=false) rfl;simp only [push_cast,simprocAttr]
 exact fun _=>⟨hs,hs,fun h=>h.elim⟩)
noncomputable def sp_lawStable:Spec:=⟨[.sl .node],[.rd],true,fun
 | [.dat ⟨.node,l⟩]=>some (some (fitL fitNd l),.bool true,[])
 | _=>none⟩
@[push_cast] theorem sp_lawStable_s:sp_lawStable.ps=[.sl .node]∧sp_lawStable.modes=[.rd]∧sp_lawStable.pure=true:=⟨rfl,rfl,rfl⟩
@[push_cast] theorem sp_lawStable_run (l:List Node):sp_lawStable.run [.dat ⟨.node,l⟩]=some (some (fitL fitNd l),.bool true,[]):=rfl
noncomputable def e_lawStable:Env:=mk [(11,sp_szNodeS),(13,sp_toNodeS),(15,sp_eqNodeS),(14,sp_stbF),(12,sp_stbF)] [] [] [] none
@[push_cast] theorem e_lawStable_e:e_lawStable.inl=inlF []∧e_lawStable.fnd=fndF none∧e_lawStable.gh=ghOf []∧e_lawStable.dr=drOf []∧e_lawStable.td=td∧e_lawStable.eqt=eqt∧e_lawStable.cal=calOf [(11,sp_szNodeS),(13,sp_toNodeS),(15,sp_eqNodeS),(14,sp_stbF),(12,sp_stbF)]:=⟨rfl,rfl,rfl,rfl,rfl,rfl,rfl⟩
theorem c_lawStable:CRow P0 ety0 4 sp_lawStable:=CRow.of (E:=e_lawStable) (mkOk (.cons c_szNodeS (.cons c_toNodeS (.cons c_eqNodeS (.cons c_stbFI (.cons c_stbF2 (.nil))))))) func4 rfl rfl rfl (by
 intro args p r outs h hq
 simp only [sp_lawStable] at h;split at h<;>cases h
 rename_i l
 have hl:=hq _ rfl
 refine Body.intro (rs:=[.tmp 2]) rfl rfl rfl ?_
 apply vc_run 1000 (stop:=false) rfl;simp only [push_cast,simprocAttr]
 refine ⟨hl,fun h=>?_⟩
 obtain ⟨a1,a2,a3,a4⟩:=szR_le (of_decide_eq_false h) (by omega)
 have k1:szL szNd l≤1048576:=by omega
 simp only [k1,eqB_self,Bool.not_true,reduceCtorEq,false_implies,and_self])
theorem rpsF_sz (l:List Node):szL szNd (rpsF l).1≤27511:=by
 unfold rpsF
 split
 ·exact Nat.zero_le _
 ·exact agn_sz l
noncomputable def sp_lawReparse:Spec:=⟨[.sl .node],[.rd],true,fun
 | [.dat ⟨.node,l⟩]=>some (some (fitL fitNd l),.bool true,[])
 | _=>none⟩
@[push_cast] theorem sp_lawReparse_s:sp_lawReparse.ps=[.sl .node]∧sp_lawReparse.modes=[.rd]∧sp_lawReparse.pure=true:=⟨rfl,rfl,rfl⟩
@[push_cast] theorem sp_lawReparse_run (l:List Node):sp_lawReparse.run [.dat ⟨.node,l⟩]=some (some (fitL fitNd l),.bool true,[]):=rfl
noncomputable def e_lawReparse:Env:=mk [(11,sp_szNodeS),(13,sp_toNodeS),(15,sp_eqNodeS),(18,sp_mkNodes),(19,sp_hdNodes),(17,sp_rpsF),(16,sp_rpsF)] [] [] [] none
@[push_cast] theorem e_lawReparse_e:e_lawReparse.inl=inlF []∧e_lawReparse.fnd=fndF none∧e_lawReparse.gh=ghOf []∧e_lawReparse.dr=drOf []∧e_lawReparse.td=td∧e_lawReparse.eqt=eqt∧e_lawReparse.cal=calOf [(11,sp_szNodeS),(13,sp_toNodeS),(15,sp_eqNodeS),(18,sp_mkNodes),(19,sp_hdNodes),(17,sp_rpsF),(16,sp_rpsF)]:=⟨rfl,rfl,rfl,rfl,rfl,rfl,rfl⟩
theorem c_lawReparse:CRow P0 ety0 5 sp_lawReparse:=CRow.of (E:=e_lawReparse) (mkOk (.cons c_szNodeS (.cons c_toNodeS (.cons c_eqNodeS (.cons c_mkNodes (.cons c_hdNodes (.cons c_rpsFI (.cons c_rpsF2 (.nil))))))))) func5 rfl rfl rfl (by
 intro args p r outs h hq
 simp only [sp_lawReparse] at h;split at h<;>cases h
 rename_i l
 have hl:=hq _ rfl
 refine Body.intro (rs:=[.tmp 2]) rfl rfl rfl ?_
 apply vc_run 1000 (stop:=false) rfl;simp only [push_cast,simprocAttr]
 refine ⟨hl,fun h=>?_⟩
 obtain ⟨a1,a2,a3,a4⟩:=szR_le (of_decide_eq_false h) (by omega)
 have k1:szL szNd l≤1048576:=by omega
 have k2:=rpsF_sz l
 clear hq h a1 a2 a3 a4
 generalize (rpsF l).1=R at *
 have k3:szL szNd R≤1048576:=by omega
 have k4:=cNds_sz R
 rw [cNds_eq,szNds_eq] at k4
 have k5:=cNds_sz l
 rw [cNds_eq,szNds_eq] at k5
 have n3:Mkd mkNd cNd (mkL mkNd cNd R 1) 1:=(mkL_idem mkNd cNd mkNd_id mkNd_c R 1).symm
 have n4:sumL cNd (mkL mkNd cNd R 1)=sumL cNd R:=mkL_sum mkNd cNd mkNd_c R 1
 have n1:decide ((1:Int)+(sumL cNd R:Nat) < 0)=false:=decide_eq_false (by omega)
 have n2:decide ((1:Int)+(sumL cNd l:Nat) < 0)=false:=decide_eq_false (by omega)
 have n5:(1:Int)+(sumL cNd R:Nat)≤1073741824:=by omega
 have n6:(1:Int)+(sumL cNd l:Nat)≤1073741824:=by omega
 simp only [n4,n1,n2,n3,n5,n6,k1,k3,eqB_self,Bool.not_true,cond_true,cond_false,decide_true,forall_const,reduceCtorEq,false_implies,implies_true,and_self,and_true,true_and])
end Go.Ab
