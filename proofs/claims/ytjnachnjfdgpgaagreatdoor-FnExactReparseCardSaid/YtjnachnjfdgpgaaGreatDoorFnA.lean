import Derived.Test.YtjnachnjfdgpgaaGreatDoorEngTd
set_option linter.all false
set_option maxRecDepth 20000
set_option maxHeartbeats 1000000
namespace Go.Ab
open Go Go.Proofs.Tryz
def within (n a b:Int):Bool:=decide (a≤n) && decide (n≤b)
noncomputable def sp_within:Spec:=⟨[.sc,.sc,.sc],[.rd,.rd,.rd],true,fun
 | [.int .i64 n,.int .i64 a,.int .i64 b]=>some (none,.bool (within n a b),[])
 | _=>none⟩
@[push_cast] theorem sp_within_s:sp_within.ps=[.sc,.sc,.sc]∧sp_within.modes=[.rd,.rd,.rd]∧sp_within.pure=true:=⟨rfl,rfl,rfl⟩
@[push_cast] theorem sp_within_run (n a b:Int):sp_within.run [.int .i64 n,.int .i64 a,.int .i64 b]=some (none,.bool (within n a b),[]):=rfl
noncomputable def e_within:Env:=mk [] [] [] [] none
@[push_cast] theorem e_within_e:e_within.inl=inlF []∧e_within.fnd=fndF none∧e_within.gh=ghOf []∧e_within.dr=drOf []∧e_within.td=td∧e_within.eqt=eqt∧e_within.cal=calOf []:=⟨rfl,rfl,rfl,rfl,rfl,rfl,rfl⟩
theorem c_within:CRow P0 ety0 47 sp_within:=CRow.of (E:=e_within) (mkOk (.nil)) func47 rfl rfl rfl (by
 intro args p r outs h hq
 simp only [sp_within] at h;split at h<;>cases h
 refine Body.intro (rs:=[.tmp 6]) rfl rfl rfl ?_
 apply vc_run 1000 (stop:=false) rfl;simp only [push_cast,simprocAttr]
 simp [within])
noncomputable def e_within2:Env:=mk [] [] [] [] none
@[push_cast] theorem e_within2_e:e_within2.inl=inlF []∧e_within2.fnd=fndF none∧e_within2.gh=ghOf []∧e_within2.dr=drOf []∧e_within2.td=td∧e_within2.eqt=eqt∧e_within2.cal=calOf []:=⟨rfl,rfl,rfl,rfl,rfl,rfl,rfl⟩
theorem c_within2:CRow P0 ety0 45 sp_within:=CRow.of (E:=e_within2) (mkOk (.nil)) func45 rfl rfl rfl (by
 intro args p r outs h hq
 simp only [sp_within] at h;split at h<;>cases h
 refine Body.intro (rs:=[.tmp 6]) rfl rfl rfl ?_
 apply vc_run 1000 (stop:=false) rfl;simp only [push_cast,simprocAttr]
 simp [within])
abbrev big (t:Str):Bool:=decide (65536 < t.length)
noncomputable def sp_isLong1:Spec:=⟨[.sc],[.rd],true,fun
 | [.str t]=>some (none,.bool (big t),[])
 | _=>none⟩
@[push_cast] theorem sp_isLong1_s:sp_isLong1.ps=[.sc]∧sp_isLong1.modes=[.rd]∧sp_isLong1.pure=true:=⟨rfl,rfl,rfl⟩
@[push_cast] theorem sp_isLong1_run (t:Str):sp_isLong1.run [.str t]=some (none,.bool (big t),[]):=rfl
noncomputable def e_isLong1:Env:=mk [] [] [] [] none
@[push_cast] theorem e_isLong1_e:e_isLong1.inl=inlF []∧e_isLong1.fnd=fndF none∧e_isLong1.gh=ghOf []∧e_isLong1.dr=drOf []∧e_isLong1.td=td∧e_isLong1.eqt=eqt∧e_isLong1.cal=calOf []:=⟨rfl,rfl,rfl,rfl,rfl,rfl,rfl⟩
theorem c_isLong1:CRow P0 ety0 71 sp_isLong1:=CRow.of (E:=e_isLong1) (mkOk (.nil)) func71 rfl rfl rfl (by
 intro args p r outs h hq
 simp only [sp_isLong1] at h;split at h<;>cases h
 refine Body.intro (rs:=[.tmp 2]) rfl rfl rfl ?_
 apply vc_run 1000 (stop:=false) rfl;simp only [push_cast,simprocAttr]
 simp [big];omega)
def idx (o:Option Nat):Int:=match o with
 | some i=>i
 | none=>-1
theorem findIdx_at {α:Type} {l:List α} {p:α→Bool} {d:α} {k:Nat} (h:k < l.length) (hb:∀ j < k,p (l.getD j d)=false) (hk:p (l.getD k d)=true):l.findIdx? p=some k:=by
 rw [List.findIdx?_eq_some_iff_getElem]
 refine ⟨h,by simpa [List.getD,h] using hk,fun j hj=>?_⟩
 have:=hb j hj
 have hj':j < l.length:=by omega
 simpa [List.getD,hj'] using this
theorem findIdx_none {α:Type} {l:List α} {p:α→Bool} {d:α} (hb:∀ j < l.length,p (l.getD j d)=false):l.findIdx? p=none:=by
 rw [List.findIdx?_eq_none_iff]
 intro x hx
 obtain ⟨j,hj,rfl⟩:=List.mem_iff_getElem.1 hx
 have:=hb j hj
 simpa [List.getD,hj] using this
theorem idx_any {α:Type} (l:List α) (p:α→Bool):decide (0≤idx (l.findIdx? p))=l.any p:=by
 cases h:l.findIdx? p with
 | none =>
  have:l.any p=false:=by rw [List.any_eq_false];intro x hx;simpa using List.findIdx?_eq_none_iff.1 h x hx
  rw [this];rfl
 | some i =>
  have:l.any p=true:=by
   obtain ⟨h1,h2,_⟩:=List.findIdx?_eq_some_iff_getElem.1 h
   rw [List.any_eq_true];exact ⟨_,List.getElem_mem h1,h2⟩
  rw [this];simp [idx]
noncomputable def sp_indexStr:Spec:=⟨[.sl .str,.sc],[.rd,.rd],true,fun
 | [.dat ⟨.str,l⟩,.fn 71 [] []]=>some (some (l.length≤1073741824),.int .i64 (idx (l.findIdx? big)),[])
 | _=>none⟩
@[push_cast] theorem sp_indexStr_s:sp_indexStr.ps=[.sl .str,.sc]∧sp_indexStr.modes=[.rd,.rd]∧sp_indexStr.pure=true:=⟨rfl,rfl,rfl⟩
@[push_cast] theorem sp_indexStr_run (l:List Str):sp_indexStr.run [.dat ⟨.str,l⟩,.fn 71 [] []]=some (some (l.length≤1073741824),.int .i64 (idx (l.findIdx? big)),[]):=rfl
noncomputable def e_indexStr:Env:=mk [(71,sp_isLong1)] [] [] [] none
@[push_cast] theorem e_indexStr_e:e_indexStr.inl=inlF []∧e_indexStr.fnd=fndF none∧e_indexStr.gh=ghOf []∧e_indexStr.dr=drOf []∧e_indexStr.td=td∧e_indexStr.eqt=eqt∧e_indexStr.cal=calOf [(71,sp_isLong1)]:=⟨rfl,rfl,rfl,rfl,rfl,rfl,rfl⟩
theorem c_indexStr:CRow P0 ety0 124 sp_indexStr:=CRow.of (E:=e_indexStr) (mkOk (.cons c_isLong1 (.nil))) func124 rfl rfl rfl (by
 intro args p r outs h hq
 simp only [sp_indexStr] at h;split at h<;>cases h
 rename_i l
 have hl:=hq _ rfl
 refine Body.intro (rs:=[.tmp 4]) rfl rfl rfl ?_
 apply vc_run 1000 (stop:=false) rfl;simp only [push_cast,simprocAttr]
 refine Run.loop [8] [0,1,6,7] [] rfl (fun n vs bs=>∃ k:Nat,vs=[.int .i64 k]∧bs=[]∧k≤l.length∧(∀ j < k,big (l.getD j [])=false)∧n=l.length - k) l.length ?_ ?_
 ·simp only [push_cast,simprocAttr]
  exact ⟨0,rfl,by omega,by simp,by omega⟩
 rintro n vs bs ⟨k,rfl,rfl,hk,hb,rfl⟩
 simp only [push_cast,simprocAttr]
 apply vc_run 1000 (stop:=false) rfl;simp only [push_cast,simprocAttr]
 refine ⟨fun hlt=>?_,fun hge=>?_⟩
 ·have hlt:k < l.length:=by simpa using hlt
  refine ⟨by omega,fun hy=>?_,fun hn=>⟨by constructor<;>omega,_,by omega,k+1,rfl,by omega,fun j hj=>?_,rfl⟩⟩
  ·rw [findIdx_at hlt hb hy];rfl
  ·rcases Nat.lt_or_eq_of_le (Nat.le_of_lt_succ hj) with h | rfl
   ·exact hb j h
   ·exact hn
 ·have hge:k=l.length:=by simp at hge;omega
  rw [findIdx_none (by rw [← hge];exact hb)];rfl)
def isLong (l:List Str):Bool:=l.any big
theorem isLong_one (t:Str):isLong [t]=big t:=by simp [isLong]
noncomputable def sp_containsStr:Spec:=⟨[.sl .str,.sc],[.rd,.rd],true,fun
 | [.dat ⟨.str,l⟩,.fn 71 [] []]=>some (some (l.length≤1073741824),.bool (l.any big),[])
 | _=>none⟩
@[push_cast] theorem sp_containsStr_s:sp_containsStr.ps=[.sl .str,.sc]∧sp_containsStr.modes=[.rd,.rd]∧sp_containsStr.pure=true:=⟨rfl,rfl,rfl⟩
@[push_cast] theorem sp_containsStr_run (l:List Str):sp_containsStr.run [.dat ⟨.str,l⟩,.fn 71 [] []]=some (some (l.length≤1073741824),.bool (l.any big),[]):=rfl
noncomputable def e_containsStr:Env:=mk [(124,sp_indexStr)] [] [] [] none
@[push_cast] theorem e_containsStr_e:e_containsStr.inl=inlF []∧e_containsStr.fnd=fndF none∧e_containsStr.gh=ghOf []∧e_containsStr.dr=drOf []∧e_containsStr.td=td∧e_containsStr.eqt=eqt∧e_containsStr.cal=calOf [(124,sp_indexStr)]:=⟨rfl,rfl,rfl,rfl,rfl,rfl,rfl⟩
theorem c_containsStr:CRow P0 ety0 70 sp_containsStr:=CRow.of (E:=e_containsStr) (mkOk (.cons c_indexStr (.nil))) func70 rfl rfl rfl (by
 intro args p r outs h hq
 simp only [sp_containsStr] at h;split at h<;>cases h
 rename_i l
 have hl:=hq _ rfl
 refine Body.intro (rs:=[.tmp 4]) rfl rfl rfl ?_
 apply vc_run 1000 (stop:=false) rfl;simp only [push_cast,simprocAttr]
 exact ⟨hl,by rw [idx_any]⟩)
noncomputable def sp_isLong:Spec:=⟨[.sl .str],[.rd],true,fun
 | [.dat ⟨.str,l⟩]=>some (some (l.length≤1073741824),.bool (isLong l),[])
 | _=>none⟩
@[push_cast] theorem sp_isLong_s:sp_isLong.ps=[.sl .str]∧sp_isLong.modes=[.rd]∧sp_isLong.pure=true:=⟨rfl,rfl,rfl⟩
@[push_cast] theorem sp_isLong_run (l:List Str):sp_isLong.run [.dat ⟨.str,l⟩]=some (some (l.length≤1073741824),.bool (isLong l),[]):=rfl
@[push_cast] theorem sp_isLong_any:sp_isLong.run [.any]=none:=rfl
noncomputable def e_isLong:Env:=mk [(70,sp_containsStr)] [] [] [] none
@[push_cast] theorem e_isLong_e:e_isLong.inl=inlF []∧e_isLong.fnd=fndF none∧e_isLong.gh=ghOf []∧e_isLong.dr=drOf []∧e_isLong.td=td∧e_isLong.eqt=eqt∧e_isLong.cal=calOf [(70,sp_containsStr)]:=⟨rfl,rfl,rfl,rfl,rfl,rfl,rfl⟩
theorem c_isLong:CRow P0 ety0 32 sp_isLong:=CRow.of (E:=e_isLong) (mkOk (.cons c_containsStr (.nil))) func32 rfl rfl rfl (by
 intro args p r outs h hq
 simp only [sp_isLong] at h;split at h<;>cases h
 rename_i l
 have hl:=hq _ rfl
 refine Body.intro (rs:=[.tmp 2]) rfl rfl rfl ?_
 apply vc_run 1000 (stop:=false) rfl;simp only [push_cast,simprocAttr]
 exact ⟨hl,rfl⟩)
end Go.Ab
