import Derived.Test.YtjnachnjfdgpgaaGreatDoorFnU
set_option linter.all false
set_option maxRecDepth 20000
set_option maxHeartbeats 1000000
namespace Go.Ab
open Go Go.Proofs.Tryz
theorem treeOK_good {l:List Node} (h:treeOK l=true):goodNds l 1=true∧cntNds l≤60:=by
 have h1:=kidsM_good l 1 0 (by omega)
 by_cases hg:goodNds l 1=true∧(0:Int)+cntNds l≤60
 ·exact ⟨hg.1,by have:=hg.2;omega⟩
 ·rw [treeOK,h1.2 hg] at h;cases h
def askT (l:List Node):Int:=bif decide (4096 < l.length) then 2 else bif treeOK l then 0 else 1
theorem askT_0 {l:List Node} (h:askT l=0):l.length≤4096∧treeOK l=true:=by
 unfold askT at h
 by_cases h1:4096 < l.length
 ·rw [decide_eq_true h1] at h;cases h
 ·rw [decide_eq_false h1,cond_false] at h
  refine ⟨by omega,?_⟩
  cases ht:treeOK l with
  | true=>rfl
  | false=>rw [ht] at h;cases h
theorem len_4096 (l:List Node):decide ((4096:Int) < (l.length:Int))=decide (4096 < l.length):=decide_eq_decide.2 (by omega)
noncomputable def sp_askT:Spec:=⟨[.sl .node],[.rd],true,fun
 | [.dat ⟨.node,l⟩]=>some (some (szL szNd l≤1048576),.int .i64 (askT l),[])
 | _=>none⟩
@[push_cast] theorem sp_askT_s:sp_askT.ps=[.sl .node]∧sp_askT.modes=[.rd]∧sp_askT.pure=true:=⟨rfl,rfl,rfl⟩
@[push_cast] theorem sp_askT_run (l:List Node):sp_askT.run [.dat ⟨.node,l⟩]=some (some (szL szNd l≤1048576),.int .i64 (askT l),[]):=rfl
noncomputable def e_fault:Env:=mk [(80,sp_treeOK)] [] [] [] none
@[push_cast] theorem e_fault_e:MkE e_fault [(80,sp_treeOK)] [] [] [] none:=⟨rfl,rfl,rfl,rfl,rfl,rfl,rfl⟩
theorem c_fault:CRow P0 ety0 38 sp_askT:=CRow.of (E:=e_fault) (mkOk (.cons c_treeOK (.nil))) func38 rfl rfl rfl (by
 intro args p r outs h hq
 simp only [sp_askT] at h;split at h<;>cases h
 rename_i l
 have hz:=hq _ rfl
 refine Body.intro (rs:=[.tmp 2]) rfl rfl rfl ?_
 apply vc_run 1000 (stop:=false) rfl;simp only [push_cast,simprocAttr]
 rw [len_4096]
 refine ⟨fun h=>?_,fun h=>⟨hz,fun h1=>?_,fun h1=>?_⟩⟩
 ·rw [askT,h];rfl
 ·rw [askT,h,show treeOK l=false by simpa using h1];rfl
 ·rw [askT,h,show treeOK l=true by simpa using h1];rfl)
noncomputable def e_l03Ask:Env:=mk [(78,sp_treeOK)] [] [] [] none
@[push_cast] theorem e_l03Ask_e:MkE e_l03Ask [(78,sp_treeOK)] [] [] [] none:=⟨rfl,rfl,rfl,rfl,rfl,rfl,rfl⟩
theorem c_l03Ask:CRow P0 ety0 36 sp_askT:=CRow.of (E:=e_l03Ask) (mkOk (.cons c_treeOK2 (.nil))) func36 rfl rfl rfl (by
 intro args p r outs h hq
 simp only [sp_askT] at h;split at h<;>cases h
 rename_i l
 have hz:=hq _ rfl
 refine Body.intro (rs:=[.tmp 2]) rfl rfl rfl ?_
 apply vc_run 1000 (stop:=false) rfl;simp only [push_cast,simprocAttr]
 rw [len_4096]
 refine ⟨fun h=>?_,fun h=>⟨hz,fun h1=>?_,fun h1=>?_⟩⟩
 ·rw [askT,h];rfl
 ·rw [askT,h,show treeOK l=false by simpa using h1];rfl
 ·rw [askT,h,show treeOK l=true by simpa using h1];rfl)
end Go.Ab
