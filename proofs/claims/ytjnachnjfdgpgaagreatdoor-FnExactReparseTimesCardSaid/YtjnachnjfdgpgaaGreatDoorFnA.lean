import Derived.Test.YtjnachnjfdgpgaaGreatDoorEngTd
set_option linter.all false
set_option maxRecDepth 20000
set_option maxHeartbeats 1000000
namespace Go.Ab
open Go Go.Proofs.Tryz
def within (n a b:Int):Bool:=decide (a≤n)&&decide (n≤b)
noncomputable def sp_within:Spec:=⟨[.sc,.sc,.sc],[.rd,.rd,.rd],true,fun
 | [.int .i64 n,.int .i64 a,.int .i64 b]=>some (none,.bool (within n a b),[])
 | _=>none⟩
@[push_cast] theorem sp_within_s:sp_within.ps=[.sc,.sc,.sc]∧sp_within.modes=[.rd,.rd,.rd]∧sp_within.pure=true:=⟨rfl,rfl,rfl⟩
@[push_cast] theorem sp_within_run (n a b:Int):sp_within.run [.int .i64 n,.int .i64 a,.int .i64 b]=some (none,.bool (within n a b),[]):=rfl
noncomputable def e_within:Env:=mk [] [] [] [] none
@[push_cast] theorem e_within_e:MkE e_within [] [] [] [] none:=⟨rfl,rfl,rfl,rfl,rfl,rfl,rfl⟩
theorem c_within:CRow P0 ety0 47 sp_within:=CRow.of (E:=e_within) (mkOk (.nil)) func47 rfl rfl rfl (by
 intro args p r outs h hq
 simp only [sp_within] at h;split at h<;>cases h
 refine Body.intro (rs:=[.tmp 6]) rfl rfl rfl ?_
 apply vc_run 1000 (stop:=false) rfl;simp only [push_cast,simprocAttr]
 simp [within])
noncomputable def e_within2:Env:=mk [] [] [] [] none
@[push_cast] theorem e_within2_e:MkE e_within2 [] [] [] [] none:=⟨rfl,rfl,rfl,rfl,rfl,rfl,rfl⟩
theorem c_within2:CRow P0 ety0 45 sp_within:=CRow.of (E:=e_within2) (mkOk (.nil)) func45 rfl rfl rfl (by
 intro args p r outs h hq
 simp only [sp_within] at h;split at h<;>cases h
 refine Body.intro (rs:=[.tmp 6]) rfl rfl rfl ?_
 apply vc_run 1000 (stop:=false) rfl;simp only [push_cast,simprocAttr]
 simp [within])
def idx (o:Option Nat):Int:=match o with
 | some i=>i
 | none=>-1
theorem findIdx_at {α:Type} {l:List α} {p:α→Bool} {d:α} {k:Nat} (h:k < l.length) (hb:∀ j < k,p (l.getD j d)=false) (hk:p (l.getD k d)=true):l.findIdx? p=some k:=by
 rw [List.findIdx?_eq_some_iff_getElem]
 refine ⟨h,by simpa [List.getD,h] using hk,fun j hj=>?_⟩
 have:=hb j hj
 have hj':j < l.length:=by omega
 simpa [List.getD,hj'] using this
theorem findIdx_none {α:Type} {l:List α} {p:α→Bool} {d:α} (hb:∀ j < l.length,p (l.getD j d)=false):l.findIdx? p=none:=by
 rw [List.findIdx?_eq_none_iff]
 intro x hx
 obtain ⟨j,hj,rfl⟩:=List.mem_iff_getElem.1 hx
 have:=hb j hj
 simpa [List.getD,hj] using this
theorem idx_any {α:Type} (l:List α) (p:α→Bool):decide (0≤idx (l.findIdx? p))=l.any p:=by
 cases h:l.findIdx? p with
 | none =>
  have:l.any p=false:=by rw [List.any_eq_false];intro x hx;simpa using List.findIdx?_eq_none_iff.1 h x hx
  rw [this];rfl
 | some i =>
  have:l.any p=true:=by
   obtain ⟨h1,h2,_⟩:=List.findIdx?_eq_some_iff_getElem.1 h
   rw [List.any_eq_true];exact ⟨_,List.getElem_mem h1,h2⟩
  rw [this];simp [idx]
end Go.Ab
