import Derived.Test.YtjnachnjfdgpgaaGreatDoorFnD
set_option linter.all false
set_option maxRecDepth 20000
set_option maxHeartbeats 1000000
namespace Go.Ab
open Go Go.Proofs.Tryz
def preS (s p:Str):Bool:=decide (s.take p.length=p)
noncomputable def sp_preS:Spec:=⟨[.sc,.sc],[.rd,.rd],true,fun
 | [.str s,.str p]=>some (some (s.length≤1073741824∧p.length≤1073741824),.bool (preS s p),[])
 | _=>none⟩
@[push_cast] theorem sp_preS_s:sp_preS.ps=[.sc,.sc]∧sp_preS.modes=[.rd,.rd]∧sp_preS.pure=true:=⟨rfl,rfl,rfl⟩
@[push_cast] theorem sp_preS_run (s p:Str):sp_preS.run [.str s,.str p]=some (some (s.length≤1073741824∧p.length≤1073741824),.bool (preS s p),[]):=rfl
theorem pre_eq (s p:Str):(bif decide ((p.length:Int)≤(s.length:Int)) then decide (cut s 0 (p.length:Int)=p) else false)=preS s p:=by
 rw [cut_take]
 by_cases h:p.length≤s.length
 ·rw [decide_eq_true (show (p.length:Int)≤s.length by omega)];rfl
 ·rw [decide_eq_false (show ¬ (p.length:Int)≤s.length by omega),preS,decide_eq_false];· rfl
  intro e
  have:=congrArg List.length e
  rw [List.length_take] at this;omega
noncomputable def e_hasPre0:Env:=mk [] [] [] [] none
@[push_cast] theorem e_hasPre0_e:MkE e_hasPre0 [] [] [] [] none:=⟨rfl,rfl,rfl,rfl,rfl,rfl,rfl⟩
theorem c_hasPre0:CRow P0 ety0 201 sp_preS:=CRow.of (E:=e_hasPre0) (mkOk (.nil)) func201 rfl rfl rfl (by
 intro args p r outs h hq
 simp only [sp_preS] at h;split at h<;>cases h
 rename_i s p
 obtain ⟨hs,hp⟩:=hq _ rfl
 refine Body.intro (rs:=[.tmp 4]) rfl rfl rfl ?_
 apply vc_run 1000 (stop:=false) rfl;simp only [push_cast,simprocAttr]
 refine ⟨fun h=>?_,?_⟩
 ·have:=of_decide_eq_true h;omega
 ·rw [pre_eq])
noncomputable def e_hasPre:Env:=mk [(201,sp_preS)] [] [] [] none
@[push_cast] theorem e_hasPre_e:MkE e_hasPre [(201,sp_preS)] [] [] [] none:=⟨rfl,rfl,rfl,rfl,rfl,rfl,rfl⟩
theorem c_hasPre:CRow P0 ety0 130 sp_preS:=CRow.of (E:=e_hasPre) (mkOk (.cons c_hasPre0 (.nil))) func130 rfl rfl rfl (by
 intro args p r outs h hq
 simp only [sp_preS] at h;split at h<;>cases h
 rename_i s p
 have hz:=hq _ rfl
 refine Body.intro (rs:=[.tmp 4]) rfl rfl rfl ?_
 apply vc_run 1000 (stop:=false) rfl;simp only [push_cast,simprocAttr]
 exact hz)
end Go.Ab
