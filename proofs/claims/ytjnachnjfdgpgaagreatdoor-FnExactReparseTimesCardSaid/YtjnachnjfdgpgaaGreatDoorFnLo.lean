import Derived.Test.YtjnachnjfdgpgaaGreatDoorFnD
set_option linter.all false
set_option maxRecDepth 20000
set_option maxHeartbeats 1000000
namespace Go.Ab
open Go Go.Proofs.Tryz
def lowB (c:UInt8):UInt8:=bif rngB c 65 90 then c+32 else c
def lowS (t:Str):Str:=t.map lowB
theorem low97 (c:UInt8):c+97 - 65=c+32:=by
 apply UInt8.toNat_inj.1
 rw [UInt8.toNat_sub,UInt8.toNat_add,UInt8.toNat_add]
 have a:(97:UInt8).toNat=97:=rfl
 have b:(65:UInt8).toNat=65:=rfl
 have d:(32:UInt8).toNat=32:=rfl
 rw [a,b,d]
 have:=c.toNat_lt
 omega
def lowT (t:Str) (k:Nat):Str:=(t.take k).map lowB++t.drop k
theorem lowT_len (t:Str) (k:Nat):(lowT t k).length=t.length:=by simp [lowT];omega
theorem lowT_get {t:Str} {k:Nat} (h:k < t.length):(lowT t k).getD k 0=t.getD k 0:=by
 unfold lowT
 have e:((t.take k).map lowB).length=k:=by simp;omega
 rw [List.getD,List.getD,List.getElem?_append_right (by omega),e,Nat.sub_self,List.getElem?_drop,Nat.add_zero]
theorem lowT_step {t:Str} {k:Nat} (h:k < t.length):(lowT t k).set k (lowB (t.getD k 0))=lowT t (k+1):=by
 unfold lowT
 rw [List.take_succ_eq_append_getElem h,List.drop_eq_getElem_cons h,List.set_append_right _ _ (by simp;omega)]
 have e:k - (List.map lowB (List.take k t)).length=0:=by simp;omega
 rw [e,List.set_cons_zero,List.map_append,List.append_assoc]
 simp [List.getD,h]
theorem lowT_id {t:Str} {k:Nat} (h:k < t.length) (e:lowB (t.getD k 0)=t.getD k 0):lowT t k=lowT t (k+1):=by
 rw [← lowT_step h,e,← lowT_get h]
 have hk:k < (lowT t k).length:=by rw [lowT_len];exact h
 have:(lowT t k).getD k 0=(lowT t k)[k]:=by simp [List.getD,hk]
 rw [this,List.set_getElem_self]
noncomputable def sp_lowS:Spec:=⟨[.sc],[.rd],true,fun
 | [.str t]=>some (some (t.length≤1073741824),.str (lowS t),[])
 | _=>none⟩
@[push_cast] theorem sp_lowS_s:sp_lowS.ps=[.sc]∧sp_lowS.modes=[.rd]∧sp_lowS.pure=true:=⟨rfl,rfl,rfl⟩
@[push_cast] theorem sp_lowS_run (t:Str):sp_lowS.run [.str t]=some (some (t.length≤1073741824),.str (lowS t),[]):=rfl
noncomputable def e_lowS:Env:=mk [] [] [] [] none
@[push_cast] theorem e_lowS_e:MkE e_lowS [] [] [] [] none:=⟨rfl,rfl,rfl,rfl,rfl,rfl,rfl⟩
theorem c_lowS:CRow P0 ety0 193 sp_lowS:=CRow.of (E:=e_lowS) (mkOk (.nil)) func193 rfl rfl rfl (by
 intro args p r outs h hq
 simp only [sp_lowS] at h;split at h<;>cases h
 rename_i t
 have hz:=hq _ rfl
 refine Body.intro (rs:=[.tmp 2]) rfl rfl rfl ?_
 apply vc_run 1000 (stop:=false) rfl;simp only [push_cast,simprocAttr]
 refine ⟨by unfold sizeOk;omega,?_⟩
 refine Run.loop [3,10] [3,8,9] [] rfl (fun n vs bs=>∃ k:Nat,vs=[.own true ⟨.u8,lowT t k⟩,.int .i64 k]∧bs=[]∧k≤t.length∧n=t.length - k) t.length ?_ ?_
 ·simp only [push_cast,simprocAttr]
  exact ⟨0,rfl,by omega,by omega⟩
 rintro n vs bs ⟨k,rfl,rfl,hk,rfl⟩
 simp only [push_cast,simprocAttr]
 apply vc_run 1000 (stop:=false) rfl;simp only [push_cast,simprocAttr]
 refine ⟨fun hlt=>?_,fun hge=>?_⟩
 ·have hlt:k < t.length:=Int.ofNat_lt.1 (of_decide_eq_true hlt)
  have hlen:=lowT_len t k
  simp only [gd_nat,lowT_get hlt,low97,Int.toNat_natCast]
  refine ⟨by omega,fun hy=>⟨by omega,by constructor<;>omega,_,by omega,k+1,?_,by omega,rfl⟩,fun hn=>⟨by constructor<;>omega,_,by omega,k+1,?_,by omega,rfl⟩⟩
  ·rw [← lowT_step hlt,lowB,rngB,hy];rfl
  ·rw [lowT_id hlt (by rw [lowB,rngB,hn];rfl)];rfl
 ·have hge:k=t.length:=by have:=of_decide_eq_false hge;omega
  subst hge
  simp [lowT,lowS])
end Go.Ab
