import Derived.Test.YtjnachnjfdgpgaaGreatDoorFnAg
import Derived.Test.YtjnachnjfdgpgaaGreatDoorFnAk
set_option linter.all false
set_option maxRecDepth 20000
set_option maxHeartbeats 1000000
namespace Go.Ab
open Go Go.Proofs.Tryz
open Go.Lib
theorem askT_2 {l:List Node} (h:decide ((4096:Int) < (l.length:Int))=true):askT l=2:=by
 rw [len_4096] at h;rw [askT,h];rfl
noncomputable def stbF (l:List Node):Bool × Int:=if askT l≠0 then (false,askT l) else stb l
def rpsF (l:List Node):List Node × Int:=if askT l≠0 then ([],askT l) else agn l
noncomputable def sp_stbF:Spec:=⟨[.sl .node],[.rd],true,fun
 | [.dat ⟨.node,l⟩]=>some (some (szL szNd l≤1048576),.tup [.bool (stbF l).1,.int .i64 (stbF l).2],[])
 | _=>none⟩
@[push_cast] theorem sp_stbF_s:sp_stbF.ps=[.sl .node]∧sp_stbF.modes=[.rd]∧sp_stbF.pure=true:=⟨rfl,rfl,rfl⟩
@[push_cast] theorem sp_stbF_run (l:List Node):sp_stbF.run [.dat ⟨.node,l⟩]=some (some (szL szNd l≤1048576),.tup [.bool (stbF l).1,.int .i64 (stbF l).2],[]):=rfl
noncomputable def e_stbF2:Env:=mk [(36,sp_askT),(30,sp_agn),(31,sp_areAlike)] [] [] [] none
@[push_cast] theorem e_stbF2_e:e_stbF2.inl=inlF []∧e_stbF2.fnd=fndF none∧e_stbF2.gh=ghOf []∧e_stbF2.dr=drOf []∧e_stbF2.td=td∧e_stbF2.eqt=eqt∧e_stbF2.cal=calOf [(36,sp_askT),(30,sp_agn),(31,sp_areAlike)]:=⟨rfl,rfl,rfl,rfl,rfl,rfl,rfl⟩
theorem c_stbF2:CRow P0 ety0 12 sp_stbF:=CRow.of (E:=e_stbF2) (mkOk (.cons c_l03Ask (.cons c_agn2 (.cons c_l03Same (.nil))))) func12 rfl rfl rfl (by
 intro args p r outs h hq
 simp only [sp_stbF] at h;split at h<;>cases h
 rename_i l
 have hz:=hq _ rfl
 refine Body.intro (rs:=[.tmp 2,.tmp 3]) rfl rfl rfl ?_
 apply vc_run 1000 (stop:=false) rfl;simp only [push_cast,simprocAttr]
 have ha:=agn_sz l
 refine ⟨fun h=>?_,fun h=>⟨hz,fun g=>?_,fun g=>?_⟩⟩
 ·rw [stbF,askT_2 h,if_pos (by decide)]
 ·rw [stbF,if_pos (by simpa using g)]
 ·rw [stbF,if_neg (by simpa using g)]
  refine ⟨hz,fun _=>by omega,?_⟩
  unfold stb
  cases decide ((agn l).2=0)<;>rfl)
noncomputable def sp_rpsF:Spec:=⟨[.sl .node],[.rd],false,fun
 | [.dat ⟨.node,l⟩]=>some (some (szL szNd l≤1048576),.tup [.own true ⟨.node,(rpsF l).1⟩,.int .i64 (rpsF l).2],[])
 | _=>none⟩
@[push_cast] theorem sp_rpsF_s:sp_rpsF.ps=[.sl .node]∧sp_rpsF.modes=[.rd]∧sp_rpsF.pure=false:=⟨rfl,rfl,rfl⟩
@[push_cast] theorem sp_rpsF_run (l:List Node):sp_rpsF.run [.dat ⟨.node,l⟩]=some (some (szL szNd l≤1048576),.tup [.own true ⟨.node,(rpsF l).1⟩,.int .i64 (rpsF l).2],[]):=rfl
noncomputable def e_rpsF2:Env:=mk [(36,sp_askT),(30,sp_agn),(40,sp_clonedT)] [] [(6,[.frz 5])] [] none
@[push_cast] theorem e_rpsF2_e:e_rpsF2.inl=inlF []∧e_rpsF2.fnd=fndF none∧e_rpsF2.gh=ghOf [(6,[.frz 5])]∧e_rpsF2.dr=drOf []∧e_rpsF2.td=td∧e_rpsF2.eqt=eqt∧e_rpsF2.cal=calOf [(36,sp_askT),(30,sp_agn),(40,sp_clonedT)]:=⟨rfl,rfl,rfl,rfl,rfl,rfl,rfl⟩
theorem c_rpsF2:CRow P0 ety0 16 sp_rpsF:=CRow.of (E:=e_rpsF2) (mkOk (.cons c_l03Ask (.cons c_agn2 (.cons c_l03Copy (.nil))))) func16 rfl rfl rfl (by
 intro args p r outs h hq
 simp only [sp_rpsF] at h;split at h<;>cases h
 rename_i l
 have hz:=hq _ rfl
 refine Body.intro (rs:=[.tmp 2,.tmp 3]) rfl rfl rfl ?_
 apply vc_run 1000 (stop:=false) rfl;simp only [push_cast,simprocAttr]
 have ha:=agn_sz l
 refine ⟨fun h=>?_,fun h=>⟨hz,fun g=>?_,fun g=>?_⟩⟩
 ·rw [rpsF,askT_2 h,if_pos (by decide)]
 ·rw [rpsF,if_pos (by simpa using g)]
 ·rw [rpsF,if_neg (by simpa using g)]
  exact ⟨hz,by omega,rfl⟩)
end Go.Ab
