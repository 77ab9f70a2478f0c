import Derived.Test.YtjnachnjfdgpgaaGreatDoorFnSw
set_option linter.all false
set_option maxRecDepth 20000
set_option maxHeartbeats 1000000
namespace Go.Ab
open Go Go.Proofs.Tryz
open Go.Lib
def rptK:Nat→List Node→List Node × Int
 | 0,l=>(l,0)
 | n+1,l=>if (agn l).2≠0 then ([],(agn l).2) else rptK n (agn l).1
theorem rptK_sz:∀ (n:Nat) (l:List Node),szL szNd l≤1048576→szL szNd (rptK n l).1≤1048576
 | 0,_,h=>h
 | n+1,l,_=>by
  rw [rptK]
  split
  ·exact Nat.zero_le _
  ·have:=agn_sz l
   exact rptK_sz n _ (by omega)
theorem agn_kd (l:List Node):kdNds (agn l).1:=buildP_kd _
def rptF (l:List Node) (k:Int):List Node × Int:=if askT l≠0 then ([],askT l) else if within k 0 10=true then rptK k.toNat l else ([],4)
theorem rptF_sz (l:List Node) (k:Int) (h:szL szNd l≤1048576):szL szNd (rptF l k).1≤1048576:=by
 unfold rptF
 split
 ·exact Nat.zero_le _
 ·split
  ·exact rptK_sz _ l h
  ·exact Nat.zero_le _
theorem within_10 {k:Int} (h:within k 0 10=true):0≤k∧k≤10:=by
 unfold within at h
 simpa using h
noncomputable def sp_rptL:Spec:=⟨[.sl .node,.sc],[.rd,.rd],true,fun
 | [.dat ⟨.node,l⟩,.int .i64 k]=>some (some (szL szNd l≤1048576∧0≤k∧k≤10),.tup [.dat ⟨.node,(rptK k.toNat l).1⟩,.int .i64 (rptK k.toNat l).2],[])
 | _=>none⟩
@[push_cast] theorem sp_rptL_s:sp_rptL.ps=[.sl .node,.sc]∧sp_rptL.modes=[.rd,.rd]∧sp_rptL.pure=true:=⟨rfl,rfl,rfl⟩
@[push_cast] theorem sp_rptL_run (l:List Node) (k:Int):sp_rptL.run [.dat ⟨.node,l⟩,.int .i64 k]=some (some (szL szNd l≤1048576∧0≤k∧k≤10),.tup [.dat ⟨.node,(rptK k.toNat l).1⟩,.int .i64 (rptK k.toNat l).2],[]):=rfl
noncomputable def e_rptL:Env:=mk [(30,sp_agn)] [] [(8,[.frz 7]),(5,[.frz 4])] [] none
@[push_cast] theorem e_rptL_e:MkE e_rptL [(30,sp_agn)] [] [(8,[.frz 7]),(5,[.frz 4])] [] none:=⟨rfl,rfl,rfl,rfl,rfl,rfl,rfl⟩
theorem c_rptL:CRow P0 ety0 46 sp_rptL:=CRow.of (E:=e_rptL) (mkOk (.cons c_agn2 (.nil))) func46 rfl rfl rfl (by
 intro args p r outs h hq
 simp only [sp_rptL] at h;split at h<;>cases h
 rename_i l k
 obtain ⟨hz,h0,h1⟩:=hq _ rfl
 refine Body.intro (rs:=[.tmp 4,.tmp 5]) rfl rfl rfl ?_
 apply vc_run 1000 (stop:=false) rfl;simp only [push_cast,simprocAttr]
 refine Run.loop [0,4,5,6] [1] [] rfl (fun n vs bs=>∃ (i:Nat) (L:List Node),vs=[.dat ⟨.node,L⟩,.nilS,.int .i64 0,.int .i64 i]∧bs=[]∧(i:Int)≤k∧szL szNd L≤1048576∧rptK k.toNat l=rptK (k.toNat - i) L∧n=k.toNat - i) k.toNat ?_ ?_
 ·simp only [push_cast,simprocAttr]
  exact ⟨0,l,rfl,h0,hz,rfl,rfl⟩
 rintro n vs bs ⟨i,L,rfl,rfl,hi,hL,hr,rfl⟩
 simp only [push_cast,simprocAttr]
 apply vc_run 1000 (stop:=false) rfl;simp only [push_cast,simprocAttr]
 refine ⟨fun g=>?_,fun g=>?_⟩
 ·have hlt:(i:Int) < k:=of_decide_eq_true g
  have hk:k.toNat - i=(k.toNat - (i+1))+1:=by omega
  have ha:=agn_sz L
  refine ⟨hL,fun g2=>?_,fun g2=>⟨by constructor<;>omega,k.toNat - (i+1),by omega,i+1,(agn L).1,rfl,by omega,by omega,?_,rfl⟩⟩
  ·rw [hr,hk,rptK,if_pos (by simpa using g2)]
  ·rw [hr,hk,rptK,if_neg (by simpa using g2)]
 ·have hge:k.toNat - i=0:=by have:=of_decide_eq_false g;omega
  rw [hr,hge,rptK])
noncomputable def sp_rptF:Spec:=⟨[.sl .node,.sc],[.rd,.rd],false,fun
 | [.dat ⟨.node,l⟩,.int .i64 k]=>some (some (szL szNd l≤1048576),.tup [.own true ⟨.node,(rptF l k).1⟩,.int .i64 (rptF l k).2],[])
 | _=>none⟩
@[push_cast] theorem sp_rptF_s:sp_rptF.ps=[.sl .node,.sc]∧sp_rptF.modes=[.rd,.rd]∧sp_rptF.pure=false:=⟨rfl,rfl,rfl⟩
@[push_cast] theorem sp_rptF_run (l:List Node) (k:Int):sp_rptF.run [.dat ⟨.node,l⟩,.int .i64 k]=some (some (szL szNd l≤1048576),.tup [.own true ⟨.node,(rptF l k).1⟩,.int .i64 (rptF l k).2],[]):=rfl
noncomputable def e_rptF2:Env:=mk [(36,sp_askT),(45,sp_within),(46,sp_rptL),(40,sp_clonedT)] [] [] [] none
@[push_cast] theorem e_rptF2_e:MkE e_rptF2 [(36,sp_askT),(45,sp_within),(46,sp_rptL),(40,sp_clonedT)] [] [] [] none:=⟨rfl,rfl,rfl,rfl,rfl,rfl,rfl⟩
theorem c_rptF2:CRow P0 ety0 20 sp_rptF:=CRow.of (E:=e_rptF2) (mkOk (.cons c_l03Ask (.cons c_within2 (.cons c_rptL (.cons c_l03Copy (.nil)))))) func20 rfl rfl rfl (by
 intro args p r outs h hq
 simp only [sp_rptF] at h;split at h<;>cases h
 rename_i l k
 have hz:=hq _ rfl
 refine Body.intro (rs:=[.tmp 4,.tmp 5]) rfl rfl rfl ?_
 apply vc_run 1000 (stop:=false) rfl;simp only [push_cast,simprocAttr]
 refine ⟨fun h=>?_,fun h=>⟨hz,fun g=>?_,fun g=>⟨fun g2=>?_,fun g2=>?_⟩⟩⟩
 ·rw [rptF,askT_2 h,if_pos (by decide)]
 ·rw [rptF,if_pos (by simpa using g)]
 ·rw [rptF,if_neg (by simpa using g),if_neg (by simpa using g2)]
 ·have hw:within k 0 10=true:=by simpa using g2
  have hk:=within_10 hw
  rw [rptF,if_neg (by simpa using g),if_pos hw]
  exact ⟨⟨hz,hk⟩,rptK_sz _ l hz,rfl⟩)
noncomputable def e_rptFI:Env:=mk [(38,sp_askT),(47,sp_within),(48,sp_clonedT),(41,sp_agnK)] [] [(2000000,[.nil .node 4])] [] none
@[push_cast] theorem e_rptFI_e:MkE e_rptFI [(38,sp_askT),(47,sp_within),(48,sp_clonedT),(41,sp_agnK)] [] [(2000000,[.nil .node 4])] [] none:=⟨rfl,rfl,rfl,rfl,rfl,rfl,rfl⟩
theorem c_rptFI:CRow P0 ety0 21 sp_rptF:=CRow.of (E:=e_rptFI) (mkOk (.cons c_fault (.cons c_within (.cons c_clonedT (.cons c_agnI (.nil)))))) func21 rfl rfl rfl (by
 intro args p r outs h hq
 simp only [sp_rptF] at h;split at h<;>cases h
 rename_i l k
 have hz:=hq _ rfl
 refine Body.intro (rs:=[.tmp 4,.tmp 5]) rfl rfl rfl ?_
 apply vc_run 1000 (stop:=false) rfl;simp only [push_cast,simprocAttr]
 refine ⟨hz,fun g=>?_,fun g=>⟨fun g2=>?_,fun g2=>?_⟩⟩
 ·rw [rptF,if_pos (by simpa using g)]
 ·rw [rptF,if_neg (by simpa using g),if_neg (by simpa using g2)]
 have hw:within k 0 10=true:=by simpa using g2
 have hk:=within_10 hw
 have hkd:=askT_kd (l:=l) (by simpa using g)
 rw [rptF,if_neg (by simpa using g),if_pos hw]
 refine ⟨hz,?_⟩
 refine Run.loop [7,21] [20] [] rfl (fun n vs bs=>∃ (i:Nat) (L:List Node),vs=[.own true ⟨.node,L⟩,.int .i64 i]∧bs=[]∧(i:Int)≤k∧szL szNd L≤1048576∧kdNds L∧rptK k.toNat l=rptK (k.toNat - i) L∧n=k.toNat - i) k.toNat ?_ ?_
 ·simp only [push_cast,simprocAttr]
  exact ⟨0,l,rfl,hk.1,hz,hkd,rfl,rfl⟩
 rintro n vs bs ⟨i,L,rfl,rfl,hi,hL,hkL,hr,rfl⟩
 simp only [push_cast,simprocAttr]
 apply vc_run 1000 (stop:=false) rfl;simp only [push_cast,simprocAttr]
 refine ⟨fun g=>?_,fun g=>?_⟩
 ·have hlt:(i:Int) < k:=of_decide_eq_true g
  have hj:k.toNat - i=(k.toNat - (i+1))+1:=by omega
  have ha:=agn_sz L
  refine ⟨⟨hL,hkL⟩,fun g2=>?_,fun g2=>⟨by constructor<;>omega,k.toNat - (i+1),by omega,i+1,(agn L).1,rfl,by omega,by omega,agn_kd L,?_,rfl⟩⟩
  ·rw [hr,hj,rptK,if_pos (by simpa using g2)]
  ·rw [hr,hj,rptK,if_neg (by simpa using g2)]
 ·have hge:k.toNat - i=0:=by have:=of_decide_eq_false g;omega
  rw [hr,hge,rptK])
noncomputable def sp_lawReparseTimes:Spec:=⟨[.sl .node,.sc],[.rd,.rd],true,fun
 | [.dat ⟨.node,l⟩,.int .i64 k]=>some (some (fitL fitNd l),.bool true,[])
 | _=>none⟩
@[push_cast] theorem sp_lawReparseTimes_s:sp_lawReparseTimes.ps=[.sl .node,.sc]∧sp_lawReparseTimes.modes=[.rd,.rd]∧sp_lawReparseTimes.pure=true:=⟨rfl,rfl,rfl⟩
@[push_cast] theorem sp_lawReparseTimes_run (l:List Node) (k:Int):sp_lawReparseTimes.run [.dat ⟨.node,l⟩,.int .i64 k]=some (some (fitL fitNd l),.bool true,[]):=rfl
noncomputable def e_lawReparseTimes:Env:=mk [(11,sp_szNodeS),(13,sp_toNodeS),(15,sp_eqNodeS),(18,sp_mkNodes),(19,sp_hdNodes),(21,sp_rptF),(20,sp_rptF)] [] [] [] none
@[push_cast] theorem e_lawReparseTimes_e:MkE e_lawReparseTimes [(11,sp_szNodeS),(13,sp_toNodeS),(15,sp_eqNodeS),(18,sp_mkNodes),(19,sp_hdNodes),(21,sp_rptF),(20,sp_rptF)] [] [] [] none:=⟨rfl,rfl,rfl,rfl,rfl,rfl,rfl⟩
theorem c_lawReparseTimes:CRow P0 ety0 6 sp_lawReparseTimes:=CRow.of (E:=e_lawReparseTimes) (mkOk (.cons c_szNodeS (.cons c_toNodeS (.cons c_eqNodeS (.cons c_mkNodes (.cons c_hdNodes (.cons c_rptFI (.cons c_rptF2 (.nil))))))))) func6 rfl rfl rfl (by
 intro args p r outs h hq
 simp only [sp_lawReparseTimes] at h;split at h<;>cases h
 rename_i l k
 have hl:=hq _ rfl
 refine Body.intro (rs:=[.tmp 4]) rfl rfl rfl ?_
 apply vc_run 1000 (stop:=false) rfl;simp only [push_cast,simprocAttr]
 refine ⟨hl,fun h=>?_⟩
 obtain ⟨a1,a2,a3,a4⟩:=szR_le (of_decide_eq_false h) (by omega)
 have k1:szL szNd l≤1048576:=by omega
 have k2:=rptF_sz l k k1
 clear hq h a1 a2 a3 a4
 generalize (rptF l k).1=R at *
 have k4:=cNds_sz R
 rw [cNds_eq,szNds_eq] at k4
 have k5:=cNds_sz l
 rw [cNds_eq,szNds_eq] at k5
 have n3:Mkd mkNd cNd (mkL mkNd cNd R 1) 1:=(mkL_idem mkNd cNd mkNd_id mkNd_c R 1).symm
 have n4:sumL cNd (mkL mkNd cNd R 1)=sumL cNd R:=mkL_sum mkNd cNd mkNd_c R 1
 have n1:decide ((1:Int)+(sumL cNd R:Nat) < 0)=false:=decide_eq_false (by omega)
 have n2:decide ((1:Int)+(sumL cNd l:Nat) < 0)=false:=decide_eq_false (by omega)
 have n5:(1:Int)+(sumL cNd R:Nat)≤1073741824:=by omega
 have n6:(1:Int)+(sumL cNd l:Nat)≤1073741824:=by omega
 simp only [n4,n1,n2,n3,n5,n6,k1,k2,eqB_self,Bool.not_true,cond_true,cond_false,decide_true,forall_const,reduceCtorEq,false_implies,implies_true,and_self,and_true,true_and])
end Go.Ab
