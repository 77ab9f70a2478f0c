import Derived.Test.YtjnachnjfdgpgaaGreatDoorFnT
set_option linter.all false
set_option maxRecDepth 20000
set_option maxHeartbeats 1000000
namespace Go.Ab
open Go Go.Proofs.Tryz
theorem any_take_yes {α:Type} {l:List α} {d:α} {p:α→Bool} {j k:Nat} (hj:j < k) (hk:k≤l.length) (h:p (l.getD j d)=true):(l.take k).any p=true:=by
 have e:l.getD j d=(l.take k)[j]'(by rw [List.length_take];omega):=by
  rw [List.getElem_take]
  have:j < l.length:=by omega
  simp [List.getD,this]
 rw [List.any_eq_true]
 exact ⟨_,List.getElem_mem _,by rw [← e];exact h⟩
theorem any_take_no {α:Type} {l:List α} {d:α} {p:α→Bool} {k:Nat} (hk:k≤l.length) (h:∀ j < k,p (l.getD j d)=false):(l.take k).any p=false:=by
 rw [List.any_eq_false]
 intro x hx
 obtain ⟨j,hj,rfl⟩:=List.getElem_of_mem hx
 rw [List.length_take] at hj
 have:=h j (by omega)
 have hj':j < l.length:=by omega
 rw [List.getElem_take]
 have e:l.getD j d=l[j]:=by simp [List.getD,hj']
 rw [← e,this];simp
def voidS:List Str:=[[98,114],[104,114],[105,109,103],[105,110,112,117,116],[109,101,116,97],[108,105,110,107],[98,97,115,101],[101,109,98,101,100]]
def rawS:List Str:=[[115,116,121,108,101],[115,99,114,105,112,116],[120,109,112],[105,102,114,97,109,101]]
def isVoidS (m:Str):Bool:=hasS voidS m
def isRawS (m:Str):Bool:=hasS rawS m
noncomputable def sp_isVoidS:Spec:=⟨[.sc],[.rd],true,fun
 | [.str m]=>some (none,.bool (isVoidS m),[])
 | _=>none⟩
@[push_cast] theorem sp_isVoidS_s:sp_isVoidS.ps=[.sc]∧sp_isVoidS.modes=[.rd]∧sp_isVoidS.pure=true:=⟨rfl,rfl,rfl⟩
@[push_cast] theorem sp_isVoidS_run (m:Str):sp_isVoidS.run [.str m]=some (none,.bool (isVoidS m),[]):=rfl
noncomputable def sp_isRawS:Spec:=⟨[.sc],[.rd],true,fun
 | [.str m]=>some (none,.bool (isRawS m),[])
 | _=>none⟩
@[push_cast] theorem sp_isRawS_s:sp_isRawS.ps=[.sc]∧sp_isRawS.modes=[.rd]∧sp_isRawS.pure=true:=⟨rfl,rfl,rfl⟩
@[push_cast] theorem sp_isRawS_run (m:Str):sp_isRawS.run [.str m]=some (none,.bool (isRawS m),[]):=rfl
noncomputable def e_isVoidS:Env:=mk [(166,sp_hasS)] [] [] [] none
@[push_cast] theorem e_isVoidS_e:MkE e_isVoidS [(166,sp_hasS)] [] [] [] none:=⟨rfl,rfl,rfl,rfl,rfl,rfl,rfl⟩
theorem c_isVoidS:CRow P0 ety0 173 sp_isVoidS:=CRow.of (E:=e_isVoidS) (mkOk (.cons c_hasS (.nil))) func173 rfl rfl rfl (by
 intro args p r outs h hq
 simp only [sp_isVoidS] at h;split at h<;>cases h
 refine Body.intro (rs:=[.tmp 2]) rfl rfl rfl ?_
 apply vc_run 1000 (stop:=false) rfl;simp only [push_cast,simprocAttr]
 rfl)
noncomputable def e_isRawS:Env:=mk [(166,sp_hasS)] [] [] [] none
@[push_cast] theorem e_isRawS_e:MkE e_isRawS [(166,sp_hasS)] [] [] [] none:=⟨rfl,rfl,rfl,rfl,rfl,rfl,rfl⟩
theorem c_isRawS:CRow P0 ety0 125 sp_isRawS:=CRow.of (E:=e_isRawS) (mkOk (.cons c_hasS (.nil))) func125 rfl rfl rfl (by
 intro args p r outs h hq
 simp only [sp_isRawS] at h;split at h<;>cases h
 refine Body.intro (rs:=[.tmp 2]) rfl rfl rfl ?_
 apply vc_run 1000 (stop:=false) rfl;simp only [push_cast,simprocAttr]
 rfl)
noncomputable def e_isVoidS2:Env:=mk [(89,sp_hasS)] [] [] [] none
@[push_cast] theorem e_isVoidS2_e:MkE e_isVoidS2 [(89,sp_hasS)] [] [] [] none:=⟨rfl,rfl,rfl,rfl,rfl,rfl,rfl⟩
theorem c_isVoidS2:CRow P0 ety0 92 sp_isVoidS:=CRow.of (E:=e_isVoidS2) (mkOk (.cons c_hasS2 (.nil))) func92 rfl rfl rfl (by
 intro args p r outs h hq
 simp only [sp_isVoidS] at h;split at h<;>cases h
 refine Body.intro (rs:=[.tmp 2]) rfl rfl rfl ?_
 apply vc_run 1000 (stop:=false) rfl;simp only [push_cast,simprocAttr]
 rfl)
noncomputable def e_isRawS2:Env:=mk [(89,sp_hasS)] [] [] [] none
@[push_cast] theorem e_isRawS2_e:MkE e_isRawS2 [(89,sp_hasS)] [] [] [] none:=⟨rfl,rfl,rfl,rfl,rfl,rfl,rfl⟩
theorem c_isRawS2:CRow P0 ety0 93 sp_isRawS:=CRow.of (E:=e_isRawS2) (mkOk (.cons c_hasS2 (.nil))) func93 rfl rfl rfl (by
 intro args p r outs h hq
 simp only [sp_isRawS] at h;split at h<;>cases h
 refine Body.intro (rs:=[.tmp 2]) rfl rfl rfl ?_
 apply vc_run 1000 (stop:=false) rfl;simp only [push_cast,simprocAttr]
 rfl)
def attrOK (a:Attr):Bool:=tagOK a.name&&decide (a.value.length≤40)
noncomputable def sp_attrOK:Spec:=⟨[.st .attr],[.rd],true,fun
 | [.agg [.str a,.str b]]=>some (some (szAt ⟨a,b⟩≤1048576),.bool (attrOK ⟨a,b⟩),[])
 | _=>none⟩
@[push_cast] theorem sp_attrOK_s:sp_attrOK.ps=[.st .attr]∧sp_attrOK.modes=[.rd]∧sp_attrOK.pure=true:=⟨rfl,rfl,rfl⟩
@[push_cast] theorem sp_attrOK_run (a b:Str):sp_attrOK.run [.agg [.str a,.str b]]=some (some (szAt ⟨a,b⟩≤1048576),.bool (attrOK ⟨a,b⟩),[]):=rfl
noncomputable def e_attrOK:Env:=mk [(165,sp_tagOK)] [] [] [] none
@[push_cast] theorem e_attrOK_e:MkE e_attrOK [(165,sp_tagOK)] [] [] [] none:=⟨rfl,rfl,rfl,rfl,rfl,rfl,rfl⟩
theorem c_attrOK:CRow P0 ety0 235 sp_attrOK:=CRow.of (E:=e_attrOK) (mkOk (.cons c_tagOK (.nil))) func235 rfl rfl rfl (by
 intro args p r outs h hq
 simp only [sp_attrOK] at h;split at h<;>cases h
 rename_i a b
 have hz:=hq _ rfl
 simp only [szAt] at hz
 refine Body.intro (rs:=[.tmp 2]) rfl rfl rfl ?_
 apply vc_run 1000 (stop:=false) rfl;simp only [push_cast,simprocAttr]
 refine ⟨by omega,?_⟩
 have e:decide ((b.length:Int)≤40)=decide (b.length≤40):=len_le (n:=40)
 rw [e]
 simp only [Bool.cond_false_right]
 rfl)
def isNamed (m:Str) (a:Attr):Bool:=decide (a.name=m)
noncomputable def sp_named1:Spec:=⟨[.st .attr,.sc],[.rd,.rd],true,fun
 | [.agg [.str a,.str b],.rbp [.str m,.str v] 0]=>some (none,.bool (isNamed m ⟨a,b⟩),[])
 | _=>none⟩
@[push_cast] theorem sp_named1_s:sp_named1.ps=[.st .attr,.sc]∧sp_named1.modes=[.rd,.rd]∧sp_named1.pure=true:=⟨rfl,rfl,rfl⟩
@[push_cast] theorem sp_named1_run (a b m v:Str):sp_named1.run [.agg [.str a,.str b],.rbp [.str m,.str v] 0]=some (none,.bool (isNamed m ⟨a,b⟩),[]):=rfl
noncomputable def e_named1:Env:=mk [] [] [] [] none
@[push_cast] theorem e_named1_e:MkE e_named1 [] [] [] [] none:=⟨rfl,rfl,rfl,rfl,rfl,rfl,rfl⟩
theorem c_named1:CRow P0 ety0 236 sp_named1:=CRow.of (E:=e_named1) (mkOk (.nil)) func236 rfl rfl rfl (by
 intro args p r outs h hq
 simp only [sp_named1] at h;split at h<;>cases h
 refine Body.intro (rs:=[.tmp 3]) rfl rfl rfl ?_
 apply vc_run 1000 (stop:=false) rfl;simp only [push_cast,simprocAttr]
 rfl)
noncomputable def sp_idxAttrA:Spec:=⟨[.sl .attr,.sc],[.rd,.rd],true,fun
 | [.dat ⟨.attr,l⟩,.fn 236 [] [.rbp [.str m,.str v] 0]]=>some (some (l.length≤1073741824),.int .i64 (idx (l.findIdx? (isNamed m))),[])
 | _=>none⟩
@[push_cast] theorem sp_idxAttrA_s:sp_idxAttrA.ps=[.sl .attr,.sc]∧sp_idxAttrA.modes=[.rd,.rd]∧sp_idxAttrA.pure=true:=⟨rfl,rfl,rfl⟩
@[push_cast] theorem sp_idxAttrA_run (l:List Attr) (m v:Str):sp_idxAttrA.run [.dat ⟨.attr,l⟩,.fn 236 [] [.rbp [.str m,.str v] 0]]=some (some (l.length≤1073741824),.int .i64 (idx (l.findIdx? (isNamed m))),[]):=rfl
noncomputable def e_idxAttrA:Env:=mk [(236,sp_named1)] [] [] [] none
@[push_cast] theorem e_idxAttrA_e:MkE e_idxAttrA [(236,sp_named1)] [] [] [] none:=⟨rfl,rfl,rfl,rfl,rfl,rfl,rfl⟩
theorem c_idxAttrA:CRow P0 ety0 182 sp_idxAttrA:=CRow.of (E:=e_idxAttrA) (mkOk (.cons c_named1 (.nil))) func182 rfl rfl rfl (by
 intro args p r outs h hq
 simp only [sp_idxAttrA] at h;split at h<;>cases h
 rename_i l m v
 have hq0:=hq _ rfl
 have hl:l.length≤1073741824:=by first | exact hq0 | exact hq0.1
 refine Body.intro (rs:=[.tmp 4]) rfl rfl rfl ?_
 apply vc_run 1000 (stop:=false) rfl;simp only [push_cast,simprocAttr]
 refine Run.loop [8] [0,1,6,7] [] rfl (fun n vs bs=>∃ k:Nat,vs=[.int .i64 k]∧bs=[]∧k≤l.length∧(∀ j < k,(isNamed m) (l.getD j attrD)=false)∧n=l.length - k) l.length ?_ ?_
 ·simp only [push_cast,simprocAttr]
  exact ⟨0,rfl,by omega,by simp,by omega⟩
 rintro n vs bs ⟨k,rfl,rfl,hk,hb,rfl⟩
 simp only [push_cast,simprocAttr]
 apply vc_run 1000 (stop:=false) rfl;simp only [push_cast,simprocAttr]
 refine ⟨fun hlt=>?_,fun hge=>?_⟩
 ·have hlt:k < l.length:=by simpa using hlt
  simp only [gd_nat]
  refine ⟨by omega,fun hy=>?_,fun hn=>⟨by constructor<;>omega,_,by omega,k+1,rfl,by omega,below_step hb hn,rfl⟩⟩
  rw [findIdx_at (p:=isNamed m) hlt hb hy];rfl
 ·have hge:k=l.length:=by simp at hge;omega
  subst hge
  rw [findIdx_none (p:=isNamed m) hb];rfl)
noncomputable def sp_conAttrA:Spec:=⟨[.sl .attr,.sc],[.rd,.rd],true,fun
 | [.dat ⟨.attr,l⟩,.fn 236 [] [.rbp [.str m,.str v] 0]]=>some (some (l.length≤1073741824),.bool (l.any (isNamed m)),[])
 | _=>none⟩
@[push_cast] theorem sp_conAttrA_s:sp_conAttrA.ps=[.sl .attr,.sc]∧sp_conAttrA.modes=[.rd,.rd]∧sp_conAttrA.pure=true:=⟨rfl,rfl,rfl⟩
@[push_cast] theorem sp_conAttrA_run (l:List Attr) (m v:Str):sp_conAttrA.run [.dat ⟨.attr,l⟩,.fn 236 [] [.rbp [.str m,.str v] 0]]=some (some (l.length≤1073741824),.bool (l.any (isNamed m)),[]):=rfl
noncomputable def e_conAttrA:Env:=mk [(182,sp_idxAttrA)] [] [] [] none
@[push_cast] theorem e_conAttrA_e:MkE e_conAttrA [(182,sp_idxAttrA)] [] [] [] none:=⟨rfl,rfl,rfl,rfl,rfl,rfl,rfl⟩
theorem c_conAttrA:CRow P0 ety0 212 sp_conAttrA:=CRow.of (E:=e_conAttrA) (mkOk (.cons c_idxAttrA (.nil))) func212 rfl rfl rfl (by
 intro args p r outs h hq
 simp only [sp_conAttrA] at h;split at h<;>cases h
 rename_i l m v
 have hq0:=hq _ rfl
 refine Body.intro (rs:=[.tmp 4]) rfl rfl rfl ?_
 apply vc_run 1000 (stop:=false) rfl;simp only [push_cast,simprocAttr]
 exact ⟨hq0,by rw [idx_any]⟩)
def attrAtOK (l:List Attr) (i:Nat):Bool:=attrOK (l.getD i attrD)&&!(l.take i).any (isNamed (l.getD i attrD).name)
def attrsOK (l:List Attr):Bool:=decide (l.length≤6)&&(List.range l.length).all (attrAtOK l)
theorem szL_at1 {α:Type} (f:α→Nat) {l:List α} (d:α) {k:Nat} (h:k < l.length):f (l.getD k d)+1≤szL f l:=by
 have h1:f (l.getD k d)≤sumL f l:=sumL_mem f (by
  have e:l.getD k d=l[k]:=by simp [List.getD,h]
  rw [e];exact List.getElem_mem h)
 have h2:szL f l=l.length+sumL f l:=rfl
 omega
noncomputable def sp_attrsOK:Spec:=⟨[.sl .attr],[.rd],true,fun
 | [.dat ⟨.attr,l⟩]=>some (some (szL szAt l≤1048577),.bool (attrsOK l),[])
 | _=>none⟩
@[push_cast] theorem sp_attrsOK_s:sp_attrsOK.ps=[.sl .attr]∧sp_attrsOK.modes=[.rd]∧sp_attrsOK.pure=true:=⟨rfl,rfl,rfl⟩
@[push_cast] theorem sp_attrsOK_run (l:List Attr):sp_attrsOK.run [.dat ⟨.attr,l⟩]=some (some (szL szAt l≤1048577),.bool (attrsOK l),[]):=rfl
noncomputable def e_attrsOK:Env:=mk [(235,sp_attrOK),(212,sp_conAttrA)] [] [] [] none
@[push_cast] theorem e_attrsOK_e:MkE e_attrsOK [(235,sp_attrOK),(212,sp_conAttrA)] [] [] [] none:=⟨rfl,rfl,rfl,rfl,rfl,rfl,rfl⟩
theorem c_attrsOK:CRow P0 ety0 199 sp_attrsOK:=CRow.of (E:=e_attrsOK) (mkOk (.cons c_attrOK (.cons c_conAttrA (.nil)))) func199 rfl rfl rfl (by
 intro args p r outs h hq
 simp only [sp_attrsOK] at h;split at h<;>cases h
 rename_i l
 have hz:=hq _ rfl
 have hl:l.length≤1048577:=Nat.le_trans (szL_len _ _) hz
 refine Body.intro (rs:=[.tmp 2]) rfl rfl rfl ?_
 apply vc_run 1000 (stop:=false) rfl;simp only [push_cast,simprocAttr]
 refine Run.loop [7] [0,5,6] [] rfl (fun n vs bs=>∃ k:Nat,vs=[.int .i64 k]∧bs=[]∧k≤l.length∧(∀ j < k,attrAtOK l j=true)∧n=l.length - k) l.length ?_ ?_
 ·simp only [push_cast,simprocAttr]
  exact ⟨0,rfl,by omega,by simp,by omega⟩
 rintro n vs bs ⟨k,rfl,rfl,hk,hb,rfl⟩
 simp only [push_cast,simprocAttr]
 apply vc_run 1000 (stop:=false) rfl;simp only [push_cast,simprocAttr]
 refine ⟨fun hlt=>?_,fun hge=>?_⟩
 ·have hlt:k < l.length:=Int.ofNat_lt.1 (of_decide_eq_true hlt)
  have hel:szAt (l.getD k attrD)≤1048576:=by have:=szL_at1 szAt attrD hlt;omega
  simp only [gd_nat,cut_take]
  have htk:(l.take k).length≤1073741824:=by rw [List.length_take];omega
  refine ⟨by omega,hel,fun _=>by omega,fun _=>htk,fun hy=>?_,fun hn=>⟨by constructor<;>omega,_,by omega,k+1,rfl,by omega,below_step hb ?_,rfl⟩⟩
  ·have hy:attrAtOK l k=false:=by
    unfold attrAtOK;cases h1:attrOK (l.getD k attrD)<;>simp_all
   rw [attrsOK,all_no hlt hy,Bool.and_false]
  ·unfold attrAtOK;cases h1:attrOK (l.getD k attrD)<;>simp_all
 ·have hge:k=l.length:=by have:=of_decide_eq_false hge;omega
  subst hge
  have e:decide ((l.length:Int)≤6)=decide (l.length≤6):=len_le (n:=6)
  rw [attrsOK,all_yes hb,Bool.and_true,e])
noncomputable def e_attrsOK2:Env:=mk [(154,sp_tagOK)] [(11,[],[(true,[0,1,2,3,4,5,6,7,8,9,10],[])])] [] [] none
@[push_cast] theorem e_attrsOK2_e:MkE e_attrsOK2 [(154,sp_tagOK)] [(11,[],[(true,[0,1,2,3,4,5,6,7,8,9,10],[])])] [] [] none:=⟨rfl,rfl,rfl,rfl,rfl,rfl,rfl⟩
theorem c_attrsOK2:CRow P0 ety0 234 sp_attrsOK:=CRow.of (E:=e_attrsOK2) (mkOk (.cons c_tagOK2 (.nil))) func234 rfl rfl rfl (by
 intro args p r outs h hq
 simp only [sp_attrsOK] at h;split at h<;>cases h
 rename_i l
 have hz:=hq _ rfl
 have hl:l.length≤1048577:=Nat.le_trans (szL_len _ _) hz
 refine Body.intro (rs:=[.tmp 2]) rfl rfl rfl ?_
 apply vc_run 1000 (stop:=false) rfl;simp only [push_cast,simprocAttr]
 refine ⟨fun h=>?_,fun h=>?_⟩
 ·rw [attrsOK,show decide (l.length≤6)=false by simp at h ⊢;omega];rfl
 refine Run.loop [3] [0] [] rfl (fun n vs bs=>∃ k:Nat,vs=[.int .i64 k]∧bs=[]∧k≤l.length∧(∀ j < k,attrAtOK l j=true)∧n=l.length - k) l.length ?_ ?_
 ·simp only [push_cast,simprocAttr]
  exact ⟨0,rfl,by omega,by simp,by omega⟩
 rintro n vs bs ⟨k,rfl,rfl,hk,hb,rfl⟩
 simp only [push_cast,simprocAttr]
 apply vc_run 1000 (stop:=false) rfl;simp only [push_cast,simprocAttr]
 have e40:∀ x:Str,decide ((40:Int) < (x.length:Nat))=!decide (x.length≤40):=fun x=>len_gt (n:=40)
 have h6:decide (l.length≤6)=true:=by have:=of_decide_eq_false h;exact decide_eq_true (by omega)
 refine ⟨fun hlt=>?_,fun hge=>?_⟩
 rotate_left
 ·have hge:k=l.length:=by have:=of_decide_eq_false hge;omega
  subst hge
  rw [attrsOK,all_yes hb,h6];rfl
 have hlt:k < l.length:=Int.ofNat_lt.1 (of_decide_eq_true hlt)
 have hel:szAt (l.getD k attrD)≤1048576:=by have:=szL_at1 szAt attrD hlt;omega
 have hel':(l.getD k attrD).name.length+(l.getD k attrD).value.length≤1048576:=hel
 simp only [gd_nat,e40]
 refine ⟨by omega,by omega,fun _=>by omega,fun hy=>?_,fun hok=>?_⟩
 ·have hy:attrAtOK l k=false:=by
   have:attrOK (l.getD k attrD)=false:=by
    unfold attrOK;revert hy
    cases tagOK (l.getD k attrD).name<;>cases decide ((l.getD k attrD).value.length≤40)<;>simp
   unfold attrAtOK;rw [this];rfl
  rw [attrsOK,all_no hlt hy,Bool.and_false]
 have hok:attrOK (l.getD k attrD)=true:=by
  unfold attrOK;cases h1:tagOK (l.getD k attrD).name<;>simp_all
 refine Run.loop [4] [0,3] [] rfl (fun n vs bs=>∃ j:Nat,vs=[.int .i64 j]∧bs=[]∧j≤k∧(∀ i < j,isNamed (l.getD k attrD).name (l.getD i attrD)=false)∧n=k - j) k ?_ ?_
 ·simp only [push_cast,simprocAttr]
  exact ⟨0,rfl,by omega,by simp,by omega⟩
 rintro n vs bs ⟨j,rfl,rfl,hj,hbj,rfl⟩
 simp only [push_cast,simprocAttr]
 apply vc_run 1000 (stop:=false) rfl;simp only [push_cast,simprocAttr]
 refine ⟨fun hj2=>?_,fun hj2=>?_⟩
 ·have hjk:j < k:=Int.ofNat_lt.1 (of_decide_eq_true hj2)
  simp only [gd_nat]
  refine ⟨by omega,by omega,fun hy=>?_,fun hn=>⟨by constructor<;>omega,_,by omega,j+1,rfl,by omega,below_step hbj hn,rfl⟩⟩
  have hy':attrAtOK l k=false:=by
   unfold attrAtOK
   rw [any_take_yes (p:=isNamed (l.getD k attrD).name) hjk hk hy];simp
  rw [attrsOK,all_no hlt hy',Bool.and_false]
 ·have hge:j=k:=by have:=of_decide_eq_false hj2;omega
  subst hge
  refine ⟨by constructor<;>omega,_,by omega,j+1,rfl,by omega,below_step hb ?_,rfl⟩
  unfold attrAtOK
  rw [hok,any_take_no hk hbj];rfl)
def ownNd (x:Node):Bool:=(decide (x.kind=1)&&(tagOK x.name&&within x.space 0 2&&attrsOK x.attrs&&decide (x.text=[]))) || ((decide (x.kind=2) || decide (x.kind=3))&&(within x.text.length (3 - x.kind) 120&&decide (x.space=0)&&decide (x.name=[])&&x.attrs.isEmpty&&x.kids.isEmpty))
theorem ownNd_mk (k s:Int) (m t:Str) (a:List Attr) (ks:List Node):ownNd (.mk k s m t a ks)=((decide (k=1)&&(tagOK m&&within s 0 2&&attrsOK a&&decide (t=[]))) || ((decide (k=2) || decide (k=3))&&(within t.length (3 - k) 120&&decide (s=0)&&decide (m=[])&&a.isEmpty&&ks.isEmpty))):=rfl
noncomputable def sp_ownNd:Spec:=⟨[.st .node],[.rd],true,fun
 | [.agg [.int .i64 k,.int .i64 s,.str m,.str t,.dat ⟨.attr,a⟩,.dat ⟨.node,ks⟩]]=>some (some (szNd (.mk k s m t a ks)≤1048576),.bool (ownNd (.mk k s m t a ks)),[])
 | _=>none⟩
@[push_cast] theorem sp_ownNd_s:sp_ownNd.ps=[.st .node]∧sp_ownNd.modes=[.rd]∧sp_ownNd.pure=true:=⟨rfl,rfl,rfl⟩
@[push_cast] theorem sp_ownNd_run (k s:Int) (m t:Str) (a:List Attr) (ks:List Node):sp_ownNd.run [.agg [.int .i64 k,.int .i64 s,.str m,.str t,.dat ⟨.attr,a⟩,.dat ⟨.node,ks⟩]]=some (some (szNd (.mk k s m t a ks)≤1048576),.bool (ownNd (.mk k s m t a ks)),[]):=rfl
noncomputable def e_ownNd:Env:=mk [(165,sp_tagOK),(47,sp_within),(199,sp_attrsOK)] [] [] [] none
@[push_cast] theorem e_ownNd_e:MkE e_ownNd [(165,sp_tagOK),(47,sp_within),(199,sp_attrsOK)] [] [] [] none:=⟨rfl,rfl,rfl,rfl,rfl,rfl,rfl⟩
theorem c_ownNd:CRow P0 ety0 209 sp_ownNd:=CRow.of (E:=e_ownNd) (mkOk (.cons c_tagOK (.cons c_within (.cons c_attrsOK (.nil))))) func209 rfl rfl rfl (by
 intro args p r outs h hq
 simp only [sp_ownNd] at h;split at h<;>cases h
 rename_i k s m t a ks
 have hz:=hq _ rfl
 rw [szNd_mk] at hz
 refine Body.intro (rs:=[.tmp 2]) rfl rfl rfl ?_
 apply vc_run 1000 (stop:=false) rfl;simp only [push_cast,simprocAttr]
 simp only [ownNd_mk,len_e]
 refine ⟨fun h1=>⟨by omega,fun _=>by omega,?_⟩,fun h1=>⟨fun h2=>⟨fun _=>⟨by have:=of_decide_eq_true h2;constructor<;>omega,?_⟩,fun h=>by rw [h2] at h;cases h⟩,fun h2=>⟨fun h3=>⟨by have:=of_decide_eq_true h3;constructor<;>omega,?_⟩,fun h3=>?_⟩⟩⟩
 ·have:=of_decide_eq_true h1;subst this
  generalize tagOK m=b1;generalize within s 0 2=b2;generalize decide (t=[])=b3;generalize attrsOK a=b4
  cases b1<;>cases b2<;>cases b3<;>cases b4<;>rfl
 ·have:=of_decide_eq_true h2;subst this
  generalize within t.length (3 - 2) 120=b1;generalize decide (s=0)=b2;generalize decide (m=[])=b3;generalize a.isEmpty=b4;generalize ks.isEmpty=b5
  cases b1<;>cases b2<;>cases b3<;>cases b4<;>cases b5<;>rfl
 ·have:=of_decide_eq_true h3;subst this
  generalize within t.length (3 - 3) 120=b1;generalize decide (s=0)=b2;generalize decide (m=[])=b3;generalize a.isEmpty=b4;generalize ks.isEmpty=b5
  cases b1<;>cases b2<;>cases b3<;>cases b4<;>cases b5<;>rfl
 ·simp only [h1,h2,h3];rfl)
noncomputable def e_ownNd2:Env:=mk [(154,sp_tagOK),(45,sp_within),(234,sp_attrsOK)] [] [] [] none
@[push_cast] theorem e_ownNd2_e:MkE e_ownNd2 [(154,sp_tagOK),(45,sp_within),(234,sp_attrsOK)] [] [] [] none:=⟨rfl,rfl,rfl,rfl,rfl,rfl,rfl⟩
theorem c_ownNd2:CRow P0 ety0 207 sp_ownNd:=CRow.of (E:=e_ownNd2) (mkOk (.cons c_tagOK2 (.cons c_within2 (.cons c_attrsOK2 (.nil))))) func207 rfl rfl rfl (by
 intro args p r outs h hq
 simp only [sp_ownNd] at h;split at h<;>cases h
 rename_i k s m t a ks
 have hz:=hq _ rfl
 rw [szNd_mk] at hz
 refine Body.intro (rs:=[.tmp 2]) rfl rfl rfl ?_
 apply vc_run 1000 (stop:=false) rfl;simp only [push_cast,simprocAttr]
 simp only [ownNd_mk,len_e]
 refine ⟨fun h1=>⟨by omega,fun _=>by omega,?_⟩,fun h1=>⟨fun h2=>?_,fun h2=>⟨fun h3=>?_,fun h3=>?_⟩⟩⟩
 ·have:=of_decide_eq_true h1;subst this
  generalize tagOK m=b1;generalize within s 0 2=b2;generalize decide (t=[])=b3;generalize attrsOK a=b4
  cases b1<;>cases b2<;>cases b3<;>cases b4<;>rfl
 ·have:=of_decide_eq_true h2;subst this
  have e:within t.length (3 - 2) 120=within t.length 1 120:=rfl
  rw [e]
  generalize decide (m=[])=b1;generalize decide (s=0)=b2;generalize within t.length 1 120=b3;generalize a.isEmpty=b4;generalize ks.isEmpty=b5
  cases b1<;>cases b2<;>cases b3<;>cases b4<;>cases b5<;>rfl
 ·have:=of_decide_eq_true h3;subst this
  have e:within t.length (3 - 3) 120=decide ((t.length:Int)≤120):=by
   rw [within,show decide ((3 - 3:Int)≤(t.length:Nat))=true from decide_eq_true (by omega)];rfl
  rw [e]
  generalize decide (m=[])=b1;generalize decide (s=0)=b2;generalize decide ((t.length:Int)≤120)=b3;generalize a.isEmpty=b4;generalize ks.isEmpty=b5
  cases b1<;>cases b2<;>cases b3<;>cases b4<;>cases b5<;>rfl
 ·simp only [h1,h2,h3];rfl)
def isEl0 (x:Node):Bool:=decide (x.kind=1)&&decide (x.space=0)
noncomputable def sp_voidNd:Spec:=⟨[.st .node],[.rd],true,fun
 | [.agg [.int .i64 k,.int .i64 s,.str m,.str t,.dat ⟨.attr,a⟩,.dat ⟨.node,ks⟩]]=>some (none,.bool (isEl0 (.mk k s m t a ks)&&isVoidS m),[])
 | _=>none⟩
@[push_cast] theorem sp_voidNd_s:sp_voidNd.ps=[.st .node]∧sp_voidNd.modes=[.rd]∧sp_voidNd.pure=true:=⟨rfl,rfl,rfl⟩
@[push_cast] theorem sp_voidNd_run (k s:Int) (m t:Str) (a:List Attr) (ks:List Node):sp_voidNd.run [.agg [.int .i64 k,.int .i64 s,.str m,.str t,.dat ⟨.attr,a⟩,.dat ⟨.node,ks⟩]]=some (none,.bool (isEl0 (.mk k s m t a ks)&&isVoidS m),[]):=rfl
noncomputable def e_voidNd:Env:=mk [(173,sp_isVoidS)] [] [] [] none
@[push_cast] theorem e_voidNd_e:MkE e_voidNd [(173,sp_isVoidS)] [] [] [] none:=⟨rfl,rfl,rfl,rfl,rfl,rfl,rfl⟩
theorem c_voidNd:CRow P0 ety0 102 sp_voidNd:=CRow.of (E:=e_voidNd) (mkOk (.cons c_isVoidS (.nil))) func102 rfl rfl rfl (by
 intro args p r outs h hq
 simp only [sp_voidNd] at h;split at h<;>cases h
 refine Body.intro (rs:=[.tmp 2]) rfl rfl rfl ?_
 apply vc_run 1000 (stop:=false) rfl;simp only [push_cast,simprocAttr]
 simp only [Bool.cond_false_right]
 rfl)
noncomputable def sp_rawNd:Spec:=⟨[.st .node],[.rd],true,fun
 | [.agg [.int .i64 k,.int .i64 s,.str m,.str t,.dat ⟨.attr,a⟩,.dat ⟨.node,ks⟩]]=>some (none,.bool (isEl0 (.mk k s m t a ks)&&isRawS m),[])
 | _=>none⟩
@[push_cast] theorem sp_rawNd_s:sp_rawNd.ps=[.st .node]∧sp_rawNd.modes=[.rd]∧sp_rawNd.pure=true:=⟨rfl,rfl,rfl⟩
@[push_cast] theorem sp_rawNd_run (k s:Int) (m t:Str) (a:List Attr) (ks:List Node):sp_rawNd.run [.agg [.int .i64 k,.int .i64 s,.str m,.str t,.dat ⟨.attr,a⟩,.dat ⟨.node,ks⟩]]=some (none,.bool (isEl0 (.mk k s m t a ks)&&isRawS m),[]):=rfl
noncomputable def e_rawNd:Env:=mk [(125,sp_isRawS)] [] [] [] none
@[push_cast] theorem e_rawNd_e:MkE e_rawNd [(125,sp_isRawS)] [] [] [] none:=⟨rfl,rfl,rfl,rfl,rfl,rfl,rfl⟩
theorem c_rawNd:CRow P0 ety0 104 sp_rawNd:=CRow.of (E:=e_rawNd) (mkOk (.cons c_isRawS (.nil))) func104 rfl rfl rfl (by
 intro args p r outs h hq
 simp only [sp_rawNd] at h;split at h<;>cases h
 refine Body.intro (rs:=[.tmp 2]) rfl rfl rfl ?_
 apply vc_run 1000 (stop:=false) rfl;simp only [push_cast,simprocAttr]
 simp only [Bool.cond_false_right]
 rfl)
def notText (x:Node):Bool:=!decide (x.kind=2)
noncomputable def sp_notText:Spec:=⟨[.st .node],[.rd],true,fun
 | [.agg [.int .i64 k,.int .i64 s,.str m,.str t,.dat ⟨.attr,a⟩,.dat ⟨.node,ks⟩]]=>some (none,.bool (notText (.mk k s m t a ks)),[])
 | _=>none⟩
@[push_cast] theorem sp_notText_s:sp_notText.ps=[.st .node]∧sp_notText.modes=[.rd]∧sp_notText.pure=true:=⟨rfl,rfl,rfl⟩
@[push_cast] theorem sp_notText_run (k s:Int) (m t:Str) (a:List Attr) (ks:List Node):sp_notText.run [.agg [.int .i64 k,.int .i64 s,.str m,.str t,.dat ⟨.attr,a⟩,.dat ⟨.node,ks⟩]]=some (none,.bool (notText (.mk k s m t a ks)),[]):=rfl
noncomputable def e_notText:Env:=mk [] [] [] [] none
@[push_cast] theorem e_notText_e:MkE e_notText [] [] [] [] none:=⟨rfl,rfl,rfl,rfl,rfl,rfl,rfl⟩
theorem c_notText:CRow P0 ety0 244 sp_notText:=CRow.of (E:=e_notText) (mkOk (.nil)) func244 rfl rfl rfl (by
 intro args p r outs h hq
 simp only [sp_notText] at h;split at h<;>cases h
 refine Body.intro (rs:=[.tmp 2]) rfl rfl rfl ?_
 apply vc_run 1000 (stop:=false) rfl;simp only [push_cast,simprocAttr]
 rfl)
noncomputable def sp_idxNodeA:Spec:=⟨[.sl .node,.sc],[.rd,.rd],true,fun
 | [.dat ⟨.node,l⟩,.fn 244 [] []]=>some (some (l.length≤1073741824),.int .i64 (idx (l.findIdx? (notText))),[])
 | _=>none⟩
@[push_cast] theorem sp_idxNodeA_s:sp_idxNodeA.ps=[.sl .node,.sc]∧sp_idxNodeA.modes=[.rd,.rd]∧sp_idxNodeA.pure=true:=⟨rfl,rfl,rfl⟩
@[push_cast] theorem sp_idxNodeA_run (l:List Node):sp_idxNodeA.run [.dat ⟨.node,l⟩,.fn 244 [] []]=some (some (l.length≤1073741824),.int .i64 (idx (l.findIdx? (notText))),[]):=rfl
noncomputable def e_idxNodeA:Env:=mk [(244,sp_notText)] [] [] [] none
@[push_cast] theorem e_idxNodeA_e:MkE e_idxNodeA [(244,sp_notText)] [] [] [] none:=⟨rfl,rfl,rfl,rfl,rfl,rfl,rfl⟩
theorem c_idxNodeA:CRow P0 ety0 229 sp_idxNodeA:=CRow.of (E:=e_idxNodeA) (mkOk (.cons c_notText (.nil))) func229 rfl rfl rfl (by
 intro args p r outs h hq
 simp only [sp_idxNodeA] at h;split at h<;>cases h
 rename_i l
 have hq0:=hq _ rfl
 have hl:l.length≤1073741824:=by first | exact hq0 | exact hq0.1
 refine Body.intro (rs:=[.tmp 4]) rfl rfl rfl ?_
 apply vc_run 1000 (stop:=false) rfl;simp only [push_cast,simprocAttr]
 refine Run.loop [8] [0,1,6,7] [] rfl (fun n vs bs=>∃ k:Nat,vs=[.int .i64 k]∧bs=[]∧k≤l.length∧(∀ j < k,(notText) (l.getD j nodeD)=false)∧n=l.length - k) l.length ?_ ?_
 ·simp only [push_cast,simprocAttr]
  exact ⟨0,rfl,by omega,by simp,by omega⟩
 rintro n vs bs ⟨k,rfl,rfl,hk,hb,rfl⟩
 simp only [push_cast,simprocAttr]
 apply vc_run 1000 (stop:=false) rfl;simp only [push_cast,simprocAttr]
 refine ⟨fun hlt=>?_,fun hge=>?_⟩
 ·have hlt:k < l.length:=by simpa using hlt
  simp only [gd_nat]
  refine ⟨by omega,fun hy=>?_,fun hn=>⟨by constructor<;>omega,_,by omega,k+1,rfl,by omega,below_step hb hn,rfl⟩⟩
  rw [findIdx_at (p:=notText) hlt hb hy];rfl
 ·have hge:k=l.length:=by simp at hge;omega
  subst hge
  rw [findIdx_none (p:=notText) hb];rfl)
noncomputable def sp_conNodeA:Spec:=⟨[.sl .node,.sc],[.rd,.rd],true,fun
 | [.dat ⟨.node,l⟩,.fn 244 [] []]=>some (some (l.length≤1073741824),.bool (l.any (notText)),[])
 | _=>none⟩
@[push_cast] theorem sp_conNodeA_s:sp_conNodeA.ps=[.sl .node,.sc]∧sp_conNodeA.modes=[.rd,.rd]∧sp_conNodeA.pure=true:=⟨rfl,rfl,rfl⟩
@[push_cast] theorem sp_conNodeA_run (l:List Node):sp_conNodeA.run [.dat ⟨.node,l⟩,.fn 244 [] []]=some (some (l.length≤1073741824),.bool (l.any (notText)),[]):=rfl
noncomputable def e_conNodeA:Env:=mk [(229,sp_idxNodeA)] [] [] [] none
@[push_cast] theorem e_conNodeA_e:MkE e_conNodeA [(229,sp_idxNodeA)] [] [] [] none:=⟨rfl,rfl,rfl,rfl,rfl,rfl,rfl⟩
theorem c_conNodeA:CRow P0 ety0 179 sp_conNodeA:=CRow.of (E:=e_conNodeA) (mkOk (.cons c_idxNodeA (.nil))) func179 rfl rfl rfl (by
 intro args p r outs h hq
 simp only [sp_conNodeA] at h;split at h<;>cases h
 rename_i l
 have hq0:=hq _ rfl
 refine Body.intro (rs:=[.tmp 4]) rfl rfl rfl ?_
 apply vc_run 1000 (stop:=false) rfl;simp only [push_cast,simprocAttr]
 exact ⟨hq0,by rw [idx_any]⟩)
noncomputable def sp_isTexts:Spec:=⟨[.sl .node],[.rd],true,fun
 | [.dat ⟨.node,l⟩]=>some (some (l.length≤1073741824),.bool (!l.any notText),[])
 | _=>none⟩
@[push_cast] theorem sp_isTexts_s:sp_isTexts.ps=[.sl .node]∧sp_isTexts.modes=[.rd]∧sp_isTexts.pure=true:=⟨rfl,rfl,rfl⟩
@[push_cast] theorem sp_isTexts_run (l:List Node):sp_isTexts.run [.dat ⟨.node,l⟩]=some (some (l.length≤1073741824),.bool (!l.any notText),[]):=rfl
noncomputable def e_isTexts:Env:=mk [(179,sp_conNodeA)] [] [] [] none
@[push_cast] theorem e_isTexts_e:MkE e_isTexts [(179,sp_conNodeA)] [] [] [] none:=⟨rfl,rfl,rfl,rfl,rfl,rfl,rfl⟩
theorem c_isTexts:CRow P0 ety0 210 sp_isTexts:=CRow.of (E:=e_isTexts) (mkOk (.cons c_conNodeA (.nil))) func210 rfl rfl rfl (by
 intro args p r outs h hq
 simp only [sp_isTexts] at h;split at h<;>cases h
 rename_i l
 have hl:=hq _ rfl
 refine Body.intro (rs:=[.tmp 2]) rfl rfl rfl ?_
 apply vc_run 1000 (stop:=false) rfl;simp only [push_cast,simprocAttr]
 exact hl)
def holdsNd (x:Node):Bool:=!(isEl0 x&&isVoidS x.name&&!x.kids.isEmpty)&&!(isEl0 x&&isRawS x.name&&x.kids.any notText)
theorem holdsNd_mk (k s:Int) (m t:Str) (a:List Attr) (ks:List Node):holdsNd (.mk k s m t a ks)=(!(decide (k=1)&&decide (s=0)&&isVoidS m&&!ks.isEmpty)&&!(decide (k=1)&&decide (s=0)&&isRawS m&&ks.any notText)):=rfl
theorem void_raw {m:Str} (h:isVoidS m=true):isRawS m=false:=by
 have key:∀ x∈voidS,isRawS x=false:=by decide
 exact key m (by simpa [isVoidS,hasS] using h)
noncomputable def sp_holdsNd:Spec:=⟨[.st .node],[.rd],true,fun
 | [.agg [.int .i64 k,.int .i64 s,.str m,.str t,.dat ⟨.attr,a⟩,.dat ⟨.node,ks⟩]]=>some (some (ks.length≤1073741824),.bool (holdsNd (.mk k s m t a ks)),[])
 | _=>none⟩
@[push_cast] theorem sp_holdsNd_s:sp_holdsNd.ps=[.st .node]∧sp_holdsNd.modes=[.rd]∧sp_holdsNd.pure=true:=⟨rfl,rfl,rfl⟩
@[push_cast] theorem sp_holdsNd_run (k s:Int) (m t:Str) (a:List Attr) (ks:List Node):sp_holdsNd.run [.agg [.int .i64 k,.int .i64 s,.str m,.str t,.dat ⟨.attr,a⟩,.dat ⟨.node,ks⟩]]=some (some (ks.length≤1073741824),.bool (holdsNd (.mk k s m t a ks)),[]):=rfl
noncomputable def e_holdsNd:Env:=mk [(92,sp_isVoidS),(93,sp_isRawS)] [] [] [] none
@[push_cast] theorem e_holdsNd_e:MkE e_holdsNd [(92,sp_isVoidS),(93,sp_isRawS)] [] [] [] none:=⟨rfl,rfl,rfl,rfl,rfl,rfl,rfl⟩
theorem c_holdsNd:CRow P0 ety0 208 sp_holdsNd:=CRow.of (E:=e_holdsNd) (mkOk (.cons c_isVoidS2 (.cons c_isRawS2 (.nil)))) func208 rfl rfl rfl (by
 intro args p r outs h hq
 simp only [sp_holdsNd] at h;split at h<;>cases h
 rename_i k s m t a ks
 have hl:=hq _ rfl
 refine Body.intro (rs:=[.tmp 2]) rfl rfl rfl ?_
 apply vc_run 1000 (stop:=false) rfl;simp only [push_cast,simprocAttr]
 rw [holdsNd_mk]
 simp only [len_e]
 refine ⟨fun h=>?_,fun h=>⟨fun hv=>?_,fun hv=>?_⟩⟩
 ·revert h
  generalize decide (k=1)=b1;generalize decide (s=0)=b2
  cases b1<;>cases b2<;>simp
 ·have h1:decide (k=1)=true:=by revert h;generalize decide (k=1)=b1;generalize decide (s=0)=b2;cases b1<;>cases b2<;>simp
  have h2:decide (s=0)=true:=by revert h;generalize decide (k=1)=b1;generalize decide (s=0)=b2;cases b1<;>cases b2<;>simp
  rw [h1,h2,hv,void_raw hv]
  cases ks.isEmpty<;>rfl
 have h1:decide (k=1)=true:=by revert h;generalize decide (k=1)=b1;generalize decide (s=0)=b2;cases b1<;>cases b2<;>simp
 have h2:decide (s=0)=true:=by revert h;generalize decide (k=1)=b1;generalize decide (s=0)=b2;cases b1<;>cases b2<;>simp
 rw [h1,h2,hv]
 refine Run.loop [3] [1] [0] rfl (fun n vs bs=>∃ j:Nat,vs=[.int .i64 j]∧bs=[[.int .i64 k,.int .i64 s,.str m,.str t,.dat ⟨.attr,a⟩,.dat ⟨.node,ks⟩]]∧j≤ks.length∧(∀ i < j,(isRawS m&&notText (ks.getD i nodeD))=false)∧n=ks.length - j) ks.length ?_ ?_
 ·simp only [push_cast,simprocAttr]
  exact ⟨0,rfl,by omega,by simp,by omega⟩
 rintro n vs bs ⟨j,rfl,rfl,hk,hb,rfl⟩
 simp only [push_cast,simprocAttr]
 apply vc_run 1000 (stop:=false) rfl;simp only [push_cast,simprocAttr]
 refine ⟨fun hlt=>?_,fun hge=>?_⟩
 ·have hlt:j < ks.length:=Int.ofNat_lt.1 (of_decide_eq_true hlt)
  simp only [gd_nat]
  refine ⟨fun _=>by omega,fun hy=>?_,fun hn=>⟨by constructor<;>omega,_,by omega,j+1,rfl,by omega,below_step hb ?_,rfl⟩⟩
  ·have hy:isRawS m=true∧notText (ks.getD j nodeD)=true:=by
    revert hy;unfold notText;cases isRawS m<;>simp
   have:=any_take_yes (p:=notText) hlt (Nat.le_refl _) hy.2
   rw [List.take_length] at this
   rw [hy.1,this];rfl
  ·revert hn;unfold notText;cases isRawS m<;>simp
 ·have hge:j=ks.length:=by have:=of_decide_eq_false hge;omega
  subst hge
  cases hr:isRawS m
  ·rfl
  ·have:=any_take_no (p:=notText) (d:=nodeD) (Nat.le_refl ks.length) (fun i hi=>by have:=hb i hi;rw [hr] at this;exact this)
   rw [List.take_length] at this
   rw [this];rfl)
mutual
def nodeM:Node→Int→Int→Bool × Int
 | .mk k s m t a ks,d,c=>bif decide (60 < c+1) || decide (10 < d) || !(ownNd (.mk k s m t a ks)&&holdsNd (.mk k s m t a ks)) then (false,c+1) else kidsM ks (d+1) (c+1)
def kidsM:List Node→Int→Int→Bool × Int
 | [],_,c=>(true,c)
 | x :: r,d,c=>match nodeM x d c with
  | (true,c')=>kidsM r d c'
  | (false,c')=>(false,c')
end
theorem nodeM_mk (k s:Int) (m t:Str) (a:List Attr) (ks:List Node) (d c:Int):nodeM (.mk k s m t a ks) d c=bif decide (60 < c+1) || decide (10 < d) || !(ownNd (.mk k s m t a ks)&&holdsNd (.mk k s m t a ks)) then (false,c+1) else kidsM ks (d+1) (c+1):=by rw [nodeM]
theorem kidsM_append (l r:List Node) (d c:Int):kidsM (l++r) d c=match kidsM l d c with
  | (true,c')=>kidsM r d c'
  | (false,c')=>(false,c'):=by
 induction l generalizing c with
 | nil=>simp [kidsM]
 | cons x l ih =>
  rw [List.cons_append,kidsM,kidsM]
  cases h:nodeM x d c with
  | mk b c'=>cases b<;>simp [ih]
theorem kidsM_one (x:Node) (d c:Int):kidsM [x] d c=nodeM x d c:=by
 rw [kidsM]
 cases h:nodeM x d c with
 | mk b c'=>cases b<;>simp [kidsM]
theorem kidsM_take {l:List Node} {k:Nat} (h:k < l.length) {d c ck:Int} (hk:kidsM (l.take k) d c=(true,ck)):kidsM (l.take (k+1)) d c=nodeM (l.getD k nodeD) d ck:=by
 rw [List.take_succ_eq_append_getElem h,kidsM_append,hk]
 show kidsM [l[k]] d ck=_
 rw [kidsM_one]
 have e:l.getD k nodeD=l[k]:=by simp [List.getD,h]
 rw [e]
theorem kidsM_no {l:List Node} {k:Nat} (h:k < l.length) {d c ck:Int} (hk:kidsM (l.take k) d c=(true,ck)) (hn:(nodeM (l.getD k nodeD) d ck).1=false):kidsM l d c=(false,(nodeM (l.getD k nodeD) d ck).2):=by
 have e:=kidsM_take h hk
 have:l=l.take (k+1)++l.drop (k+1):=(List.take_append_drop _ _).symm
 rw [this,kidsM_append,e,← this]
 revert hn
 cases nodeM (l.getD k nodeD) d ck with
 | mk b c'=>intro hn;cases hn;rfl
mutual
theorem nodeM_bd:∀ (x:Node) (d c c':Int),nodeM x d c=(true,c')→c≤c'∧c'≤60
 | .mk k s m t a ks,d,c,c',h=>by
  rw [nodeM_mk] at h
  cases hb:(decide (60 < c+1) || decide (10 < d) || !(ownNd (.mk k s m t a ks)&&holdsNd (.mk k s m t a ks))) with
  | true=>rw [hb] at h;cases h
  | false =>
   rw [hb] at h
   have h1:¬ 60 < c+1:=by
    intro hc
    rw [decide_eq_true hc] at hb;simp at hb
   have:=kidsM_bd ks (d+1) (c+1) c' h (by omega)
   omega
theorem kidsM_bd:∀ (l:List Node) (d c c':Int),kidsM l d c=(true,c')→c≤60→c≤c'∧c'≤60
 | [],d,c,c',h,hc=>by rw [kidsM] at h;cases h;exact ⟨Int.le_refl _,hc⟩
 | x :: r,d,c,c',h,hc=>by
  rw [kidsM] at h
  cases hx:nodeM x d c with
  | mk b e =>
   rw [hx] at h
   cases b with
   | false=>cases h
   | true =>
    have h1:=nodeM_bd x d c e hx
    have h2:=kidsM_bd r d e c' h h1.2
    omega
end
noncomputable def sp_nodeM (z:Nat):Spec:=⟨[.st .node,.sc,.sc],[.rd,.rd,.io],false,fun
 | [.agg [.int .i64 k,.int .i64 s,.str m,.str t,.dat ⟨.attr,a⟩,.dat ⟨.node,ks⟩],.int .i64 d,.pb [.int .i64 c]]=>some (some (szNds ks < z∧szNd (.mk k s m t a ks)≤1048576∧0≤d∧d≤11∧0≤c∧c≤60),.bool (nodeM (.mk k s m t a ks) d c).1,[.pb [.int .i64 (nodeM (.mk k s m t a ks) d c).2]])
 | _=>none⟩
@[push_cast] theorem sp_nodeM_s (z:Nat):(sp_nodeM z).ps=[.st .node,.sc,.sc]∧(sp_nodeM z).modes=[.rd,.rd,.io]∧(sp_nodeM z).pure=false:=⟨rfl,rfl,rfl⟩
@[push_cast] theorem sp_nodeM_run (z:Nat) (k s:Int) (m t:Str) (a:List Attr) (ks:List Node) (d c:Int):(sp_nodeM z).run [.agg [.int .i64 k,.int .i64 s,.str m,.str t,.dat ⟨.attr,a⟩,.dat ⟨.node,ks⟩],.int .i64 d,.pb [.int .i64 c]]=some (some (szNds ks < z∧szNd (.mk k s m t a ks)≤1048576∧0≤d∧d≤11∧0≤c∧c≤60),.bool (nodeM (.mk k s m t a ks) d c).1,[.pb [.int .i64 (nodeM (.mk k s m t a ks) d c).2]]):=rfl
noncomputable def e_isNode (z:Nat):Env:=mk [(209,sp_ownNd),(102,sp_voidNd),(104,sp_rawNd),(210,sp_isTexts),(143,(sp_nodeM z))] [] [] [] none
@[push_cast] theorem e_isNode_e (z:Nat):MkE (e_isNode z) [(209,sp_ownNd),(102,sp_voidNd),(104,sp_rawNd),(210,sp_isTexts),(143,(sp_nodeM z))] [] [] [] none:=⟨rfl,rfl,rfl,rfl,rfl,rfl,rfl⟩
theorem c_isNode (z:Nat) (h_nodeM:CRow P0 ety0 143 (sp_nodeM z)):CRow P0 ety0 143 (sp_nodeM (z+1)):=CRow.of (E:=(e_isNode z)) (mkOk (.cons c_ownNd (.cons c_voidNd (.cons c_rawNd (.cons c_isTexts (.cons h_nodeM (.nil))))))) func143 rfl rfl rfl (by
 intro args p r outs h hq
 simp only [sp_nodeM] at h;split at h<;>cases h
 rename_i k s m t a ks d c
 obtain ⟨hn,hz,d0,d1,c0,c1⟩:=hq _ rfl
 rw [szNd_mk] at hz
 refine Body.intro (rs:=[.tmp 6]) rfl rfl rfl ?_
 apply vc_run 1000 (stop:=false) rfl;simp only [push_cast,simprocAttr]
 have hk:=szL_len szNd ks
 have hX:szNd (.mk k s m t a ks)≤1048576:=by rw [szNd_mk];omega
 have en:(Node.mk k s m t a ks).name=m:=rfl
 have hh:holdsNd (.mk k s m t a ks)=(!(isEl0 (.mk k s m t a ks)&&isVoidS m&&!ks.isEmpty)&&!(isEl0 (.mk k s m t a ks)&&isRawS m&&ks.any notText)):=rfl
 have key:∀ A D o e v q r u:Bool,(bif bif bif bif A then true else D then true else !o then true else bif e&&v then !q else false then true else bif e&&r then !!u else false)=(A || D || !(o&&(!(e&&v&&!q)&&!(e&&r&&u)))):=by
  intro A D o e v q r u
  cases A<;>cases D<;>cases o<;>cases e<;>cases v<;>cases q<;>cases r<;>cases u<;>rfl
 simp only [len_pe,en,key]
 rw [← hh]
 refine ⟨by constructor<;>omega,fun _=>hX,fun _=>by omega,fun h=>?_,fun h=>?_⟩
 ·rw [nodeM_mk,h];exact ⟨rfl,rfl⟩
 have hc:¬ 60 < c+1:=by
  intro hc
  rw [decide_eq_true hc] at h;simp at h
 have hd:¬ 10 < d:=by
  intro hc
  rw [decide_eq_true hc] at h;simp at h
 have hM:nodeM (.mk k s m t a ks) d c=kidsM ks (d+1) (c+1):=by rw [nodeM_mk,h];rfl
 rw [hM]
 refine Run.loop [50] [1,2,48,49] [0] rfl (fun n vs bs=>∃ (j:Nat) (ck:Int),vs=[.int .i64 j]∧bs=[[.int .i64 ck]]∧j≤ks.length∧kidsM (ks.take j) (d+1) (c+1)=(true,ck)∧0≤ck∧ck≤60∧n=ks.length - j) ks.length ?_ ?_
 ·simp only [push_cast,simprocAttr]
  exact ⟨0,c+1,rfl,rfl,by omega,by simp [kidsM],by omega,by omega,by omega⟩
 rintro n vs bs ⟨j,ck,rfl,rfl,hj,hM2,k0,k1,rfl⟩
 simp only [push_cast,simprocAttr]
 apply vc_run 1000 (stop:=false) rfl;simp only [push_cast,simprocAttr]
 refine ⟨fun hlt=>?_,fun hge=>?_⟩
 ·have hlt:j < ks.length:=Int.ofNat_lt.1 (of_decide_eq_true hlt)
  have hel:=szL_at szNd nodeD hlt
  simp only [gd_nat]
  refine ⟨by omega,by constructor<;>omega,⟨kid_lt hn hlt,by omega,by omega,by omega,k0,k1⟩,fun hy=>?_,fun hy=>?_⟩
  ·have hy:(nodeM (ks.getD j nodeD) (d+1) ck).1=false:=by simpa using hy
   rw [kidsM_no hlt hM2 hy];exact ⟨rfl,rfl⟩
  ·have hy:(nodeM (ks.getD j nodeD) (d+1) ck).1=true:=by simpa using hy
   have hM3:=kidsM_take hlt hM2
   obtain ⟨b,c',hbc⟩:∃ b c',nodeM (ks.getD j nodeD) (d+1) ck=(b,c'):=⟨_,_,rfl⟩
   rw [hbc] at hy hM3 ⊢
   subst hy
   have hbd:=nodeM_bd _ _ _ _ hbc
   exact ⟨by constructor<;>omega,_,by omega,j+1,c',rfl,rfl,by omega,hM3,by omega,by omega,rfl⟩
 ·have hge:j=ks.length:=by have:=of_decide_eq_false hge;omega
  subst hge
  rw [List.take_length] at hM2
  rw [hM2];exact ⟨rfl,rfl⟩)
def treeOK (l:List Node):Bool:=(kidsM l 1 0).1
noncomputable def sp_treeOK:Spec:=⟨[.sl .node],[.rd],true,fun
 | [.dat ⟨.node,l⟩]=>some (some (szL szNd l≤1048576),.bool (treeOK l),[])
 | _=>none⟩
@[push_cast] theorem sp_treeOK_s:sp_treeOK.ps=[.sl .node]∧sp_treeOK.modes=[.rd]∧sp_treeOK.pure=true:=⟨rfl,rfl,rfl⟩
@[push_cast] theorem sp_treeOK_run (l:List Node):sp_treeOK.run [.dat ⟨.node,l⟩]=some (some (szL szNd l≤1048576),.bool (treeOK l),[]):=rfl
noncomputable def sp_treeOKb:Spec:=⟨[.sl .node],[.rd],true,fun
 | [.dat ⟨.node,l⟩]=>some (some (szL szNd l≤1048577),.bool (treeOK l),[])
 | _=>none⟩
@[push_cast] theorem sp_treeOKb_s:sp_treeOKb.ps=[.sl .node]∧sp_treeOKb.modes=[.rd]∧sp_treeOKb.pure=true:=⟨rfl,rfl,rfl⟩
@[push_cast] theorem sp_treeOKb_run (l:List Node):sp_treeOKb.run [.dat ⟨.node,l⟩]=some (some (szL szNd l≤1048577),.bool (treeOK l),[]):=rfl
noncomputable def sp_nodeMA:Spec:=⟨[.st .node,.sc,.sc],[.rd,.rd,.io],false,fun
 | [.agg [.int .i64 k,.int .i64 s,.str m,.str t,.dat ⟨.attr,a⟩,.dat ⟨.node,ks⟩],.int .i64 d,.pb [.int .i64 c]]=>some (some (szNd (.mk k s m t a ks)≤1048576∧0≤d∧d≤11∧0≤c∧c≤60),.bool (nodeM (.mk k s m t a ks) d c).1,[.pb [.int .i64 (nodeM (.mk k s m t a ks) d c).2]])
 | _=>none⟩
@[push_cast] theorem sp_nodeMA_s:sp_nodeMA.ps=[.st .node,.sc,.sc]∧sp_nodeMA.modes=[.rd,.rd,.io]∧sp_nodeMA.pure=false:=⟨rfl,rfl,rfl⟩
@[push_cast] theorem sp_nodeMA_run (k s:Int) (m t:Str) (a:List Attr) (ks:List Node) (d c:Int):sp_nodeMA.run [.agg [.int .i64 k,.int .i64 s,.str m,.str t,.dat ⟨.attr,a⟩,.dat ⟨.node,ks⟩],.int .i64 d,.pb [.int .i64 c]]=some (some (szNd (.mk k s m t a ks)≤1048576∧0≤d∧d≤11∧0≤c∧c≤60),.bool (nodeM (.mk k s m t a ks) d c).1,[.pb [.int .i64 (nodeM (.mk k s m t a ks) d c).2]]):=rfl
theorem r_nodeM:∀ z,CRow P0 ety0 143 (sp_nodeM z)
 | 0=>.absurd (fun args p r outs h hq=>by
   simp only [sp_nodeM] at h;split at h<;>cases h
   exact absurd (hq _ rfl).1 (Nat.not_lt_zero _)) (ent_of func143 rfl rfl)
 | z+1=>c_isNode z (r_nodeM z)
theorem c_nodeMA:CRow P0 ety0 143 sp_nodeMA:=.all (spn:=sp_nodeM) (fun _=>rfl) r_nodeM (fun args p r outs h hq=>by
 simp only [sp_nodeMA] at h;split at h<;>cases h
 rename_i k s m t a ks d c
 exact ⟨szNds ks+1,_,rfl,fun q hq'=>by cases hq';exact ⟨Nat.lt_succ_self _,hq _ rfl⟩⟩)
noncomputable def e_treeOKb:Env:=mk [(143,sp_nodeMA)] [] [] [] none
@[push_cast] theorem e_treeOKb_e:MkE e_treeOKb [(143,sp_nodeMA)] [] [] [] none:=⟨rfl,rfl,rfl,rfl,rfl,rfl,rfl⟩
theorem c_treeOKb:CRow P0 ety0 80 sp_treeOKb:=CRow.of (E:=e_treeOKb) (mkOk (.cons c_nodeMA (.nil))) func80 rfl rfl rfl (by
 intro args p r outs h hq
 simp only [sp_treeOKb] at h;split at h<;>cases h
 rename_i l
 have hz:=hq _ rfl
 have hl:=szL_len szNd l
 refine Body.intro (rs:=[.tmp 2]) rfl rfl rfl ?_
 apply vc_run 1000 (stop:=false) rfl;simp only [push_cast,simprocAttr]
 refine Run.loop [8] [3,6,7] [0] rfl (fun n vs bs=>∃ (j:Nat) (ck:Int),vs=[.int .i64 j]∧bs=[[.int .i64 ck]]∧j≤l.length∧kidsM (l.take j) 1 0=(true,ck)∧0≤ck∧ck≤60∧n=l.length - j) l.length ?_ ?_
 ·simp only [push_cast,simprocAttr]
  exact ⟨0,0,rfl,rfl,by omega,by simp [kidsM],by omega,by omega,by omega⟩
 rintro n vs bs ⟨j,ck,rfl,rfl,hj,hM2,k0,k1,rfl⟩
 simp only [push_cast,simprocAttr]
 apply vc_run 1000 (stop:=false) rfl;simp only [push_cast,simprocAttr]
 refine ⟨fun hlt=>?_,fun hge=>?_⟩
 ·have hlt:j < l.length:=Int.ofNat_lt.1 (of_decide_eq_true hlt)
  have hel:=szL_at1 szNd nodeD hlt
  simp only [gd_nat]
  refine ⟨by omega,⟨by omega,k0,k1⟩,fun hy=>?_,fun hy=>?_⟩
  ·have hy:(nodeM (l.getD j nodeD) 1 ck).1=false:=by simpa using hy
   rw [treeOK,kidsM_no hlt hM2 hy]
  ·have hy:(nodeM (l.getD j nodeD) 1 ck).1=true:=by simpa using hy
   have hM3:=kidsM_take hlt hM2
   obtain ⟨b,c',hbc⟩:∃ b c',nodeM (l.getD j nodeD) 1 ck=(b,c'):=⟨_,_,rfl⟩
   rw [hbc] at hy hM3 ⊢
   subst hy
   have hbd:=nodeM_bd _ _ _ _ hbc
   exact ⟨by constructor<;>omega,_,by omega,j+1,c',rfl,rfl,by omega,hM3,by omega,by omega,rfl⟩
 ·have hge:j=l.length:=by have:=of_decide_eq_false hge;omega
  subst hge
  rw [List.take_length] at hM2
  rw [treeOK,hM2])
theorem c_treeOK:CRow P0 ety0 80 sp_treeOK:=.all (spn:=fun _=>sp_treeOKb) (fun _=>rfl) (fun _=>c_treeOKb) (fun args p r outs h hq=>by
 simp only [sp_treeOK] at h;split at h<;>cases h
 exact ⟨0,_,rfl,fun q hq'=>by cases hq';have:=hq _ rfl;omega⟩)
mutual
def nodeO:Node→Int→Int × Bool
 | .mk _ _ _ _ _ ks,d=>bif decide (60 < (ks.length:Int)) || (decide (d=0)&&!ks.isEmpty) then ((ks.length:Int),false) else restO ks d ks.length
def restO:List Node→Int→Int→Int × Bool
 | [],_,n=>(n,true)
 | x :: r,d,n=>bif !(ownNd x&&holdsNd x) then (n,false) else bif !(nodeO x (d - 1)).2 || decide (60 < n+(nodeO x (d - 1)).1) then (n+(nodeO x (d - 1)).1,false) else restO r d (n+(nodeO x (d - 1)).1)
end
def treeO (l:List Node) (d:Int):Int × Bool:=bif decide (60 < (l.length:Int)) || (decide (d=0)&&!l.isEmpty) then ((l.length:Int),false) else restO l d l.length
theorem nodeO_eq (x:Node) (d:Int):nodeO x d=treeO x.kids d:=by cases x;rw [nodeO];rfl
mutual
theorem nodeO_bd:∀ (x:Node) (d:Int),0≤(nodeO x d).1∧(nodeO x d).1≤szNd x
 | .mk k s m t a ks,d=>by
  have hs:=szNd_mk k s m t a ks
  have hl:=szL_len szNd ks
  have hr:=restO_bd ks d ks.length (by omega)
  rw [nodeO]
  cases hb:(decide (60 < (ks.length:Int)) || (decide (d=0)&&!ks.isEmpty)) with
  | true=>show (0:Int)≤ks.length∧(ks.length:Int)≤_;omega
  | false =>
   show 0≤(restO ks d ks.length).1∧(restO ks d ks.length).1≤_
   have:szL szNd ks=ks.length+sumL szNd ks:=rfl
   omega
theorem restO_bd:∀ (l:List Node) (d n:Int),0≤n→0≤(restO l d n).1∧(restO l d n).1≤n+sumL szNd l
 | [],d,n,h=>by rw [restO];simp [sumL];exact h
 | x :: r,d,n,h=>by
  have e:sumL szNd (x :: r)=szNd x+sumL szNd r:=by simp [sumL]
  have h1:=nodeO_bd x (d - 1)
  have h2:=restO_bd r d (n+(nodeO x (d - 1)).1) (by omega)
  rw [restO]
  cases !(ownNd x&&holdsNd x) with
  | true=>show 0≤n∧n≤_;omega
  | false =>
   cases (!(nodeO x (d - 1)).2 || decide (60 < n+(nodeO x (d - 1)).1)) with
   | true=>show 0≤n+(nodeO x (d - 1)).1∧n+(nodeO x (d - 1)).1≤_;omega
   | false=>show 0≤(restO r d (n+(nodeO x (d - 1)).1)).1∧(restO r d (n+(nodeO x (d - 1)).1)).1≤_;omega
end
theorem treeO_bd (l:List Node) (d:Int):0≤(treeO l d).1∧(treeO l d).1≤szL szNd l:=by
 have h:=nodeO_bd (.mk 0 0 [] [] [] l) d
 rw [nodeO_eq] at h
 have e:=szNd_mk 0 0 [] [] [] l
 have e2:szL szAt []=0:=rfl
 simp only [List.length_nil,e2] at e
 have:(Node.mk 0 0 [] [] [] l).kids=l:=rfl
 rw [this] at h
 omega
theorem drop_at {l:List Node} {j:Nat} (h:j < l.length):l.drop j=l.getD j nodeD :: l.drop (j+1):=by
 rw [List.drop_eq_getElem_cons h]
 have e:l.getD j nodeD=l[j]:=by simp [List.getD,h]
 rw [e]
theorem restO_at {l:List Node} {j:Nat} (h:j < l.length) (d n:Int):restO (l.drop j) d n=bif !(ownNd (l.getD j nodeD)&&holdsNd (l.getD j nodeD)) then (n,false) else bif !(treeO (l.getD j nodeD).kids (d - 1)).2 || decide (60 < n+(treeO (l.getD j nodeD).kids (d - 1)).1) then (n+(treeO (l.getD j nodeD).kids (d - 1)).1,false) else restO (l.drop (j+1)) d (n+(treeO (l.getD j nodeD).kids (d - 1)).1):=by
 rw [drop_at h,restO,nodeO_eq]
noncomputable def sp_treeO (z:Nat):Spec:=⟨[.sl .node,.sc],[.rd,.rd],true,fun
 | [.dat ⟨.node,l⟩,.int .i64 d]=>some (some (szNds l < z∧szL szNd l≤1048577∧0≤d∧d≤100),.tup [.int .i64 (treeO l d).1,.bool (treeO l d).2],[])
 | _=>none⟩
@[push_cast] theorem sp_treeO_s (z:Nat):(sp_treeO z).ps=[.sl .node,.sc]∧(sp_treeO z).modes=[.rd,.rd]∧(sp_treeO z).pure=true:=⟨rfl,rfl,rfl⟩
@[push_cast] theorem sp_treeO_run (z:Nat) (l:List Node) (d:Int):(sp_treeO z).run [.dat ⟨.node,l⟩,.int .i64 d]=some (some (szNds l < z∧szL szNd l≤1048577∧0≤d∧d≤100),.tup [.int .i64 (treeO l d).1,.bool (treeO l d).2],[]):=rfl
noncomputable def e_l03OK (z:Nat):Env:=mk [(207,sp_ownNd),(208,sp_holdsNd),(141,(sp_treeO z))] [] [] [] none
@[push_cast] theorem e_l03OK_e (z:Nat):MkE (e_l03OK z) [(207,sp_ownNd),(208,sp_holdsNd),(141,(sp_treeO z))] [] [] [] none:=⟨rfl,rfl,rfl,rfl,rfl,rfl,rfl⟩
theorem c_l03OK (z:Nat) (h_treeO:CRow P0 ety0 141 (sp_treeO z)):CRow P0 ety0 141 (sp_treeO (z+1)):=CRow.of (E:=(e_l03OK z)) (mkOk (.cons c_ownNd2 (.cons c_holdsNd (.cons h_treeO (.nil))))) func141 rfl rfl rfl (by
 intro args p r outs h hq
 simp only [sp_treeO] at h;split at h<;>cases h
 rename_i l d
 obtain ⟨hn,hz,d0,d1⟩:=hq _ rfl
 have hl:=szL_len szNd l
 refine Body.intro (rs:=[.tmp 4,.tmp 5]) rfl rfl rfl ?_
 apply vc_run 1000 (stop:=false) rfl;simp only [push_cast,simprocAttr]
 simp only [len_pe]
 have hb:(bif decide (60 < (l.length:Int)) then true else bif decide (d=0) then !l.isEmpty else false)=(decide (60 < (l.length:Int)) || (decide (d=0)&&!l.isEmpty)):=by
  cases decide (60 < (l.length:Int))<;>cases decide (d=0)<;>rfl
 rw [hb]
 refine ⟨fun h=>?_,fun h=>?_⟩
 ·rw [treeO,h];rfl
 have hT:treeO l d=restO l d l.length:=by rw [treeO,h];rfl
 have h60:(l.length:Int)≤60:=by
  by_cases h':(60:Int) < (l.length:Int)
  ·rw [decide_eq_true h'] at h;cases h
  ·omega
 have hd0:0 < l.length→d≠0:=by
  intro hp hd
  subst hd
  cases l with
  | nil=>simp at hp
  | cons x l=>simp at h
 rw [hT]
 refine Run.loop [6,7] [0,1] [] rfl (fun m vs bs=>∃ (j:Nat) (n:Int),vs=[.int .i64 n,.int .i64 j]∧bs=[]∧j≤l.length∧restO l d l.length=restO (l.drop j) d n∧0≤n∧n≤60∧m=l.length - j) l.length ?_ ?_
 ·simp only [push_cast,simprocAttr]
  exact ⟨0,l.length,rfl,by omega,rfl,by omega,h60,by omega⟩
 rintro m vs bs ⟨j,n,rfl,rfl,hj,hM,n0,n1,rfl⟩
 simp only [push_cast,simprocAttr]
 apply vc_run 1000 (stop:=false) rfl;simp only [push_cast,simprocAttr]
 refine ⟨fun hlt=>?_,fun hge=>?_⟩
 ·have hlt:j < l.length:=Int.ofNat_lt.1 (of_decide_eq_true hlt)
  have hel:=szL_at1 szNd nodeD hlt
  have hkd:=szNd_eq (l.getD j nodeD)
  have hkl:=szL_len szNd (l.getD j nodeD).kids
  have hbd:=treeO_bd (l.getD j nodeD).kids (d - 1)
  have hd:=hd0 (by omega)
  simp only [gd_nat]
  rw [hM,restO_at hlt]
  generalize hT1:treeO (l.getD j nodeD).kids (d - 1)=T at *
  generalize ownNd (l.getD j nodeD)=o
  generalize holdsNd (l.getD j nodeD)=q
  refine ⟨by omega,by omega,fun _=>by omega,fun _=>by omega,fun hy=>?_,fun hy=>⟨by omega,by constructor<;>omega,⟨kid_lt hn hlt,by omega,by omega,by omega⟩,by constructor<;>omega,fun hz2=>?_,fun hz2=>⟨by constructor<;>omega,_,by omega,j+1,_,rfl,by omega,?_,by omega,?_,rfl⟩⟩⟩
  ·revert hy;cases o<;>cases q<;>simp
  ·have e:(!(o&&q))=false:=by revert hy;cases o<;>cases q<;>simp
   have e2:(!T.2 || decide (60 < n+T.1))=true:=by rw [← hz2];cases T.2<;>rfl
   rw [e,e2];rfl
  ·have e:(!(o&&q))=false:=by revert hy;cases o<;>cases q<;>simp
   have e2:(!T.2 || decide (60 < n+T.1))=false:=by rw [← hz2];cases T.2<;>rfl
   rw [e,e2];rfl
  ·revert hz2;cases T.2<;>simp
 ·have hge:j=l.length:=by have:=of_decide_eq_false hge;omega
  subst hge
  rw [hM,List.drop_length,restO])
noncomputable def sp_treeOA:Spec:=⟨[.sl .node,.sc],[.rd,.rd],true,fun
 | [.dat ⟨.node,l⟩,.int .i64 d]=>some (some (szL szNd l≤1048577∧0≤d∧d≤100),.tup [.int .i64 (treeO l d).1,.bool (treeO l d).2],[])
 | _=>none⟩
@[push_cast] theorem sp_treeOA_s:sp_treeOA.ps=[.sl .node,.sc]∧sp_treeOA.modes=[.rd,.rd]∧sp_treeOA.pure=true:=⟨rfl,rfl,rfl⟩
@[push_cast] theorem sp_treeOA_run (l:List Node) (d:Int):sp_treeOA.run [.dat ⟨.node,l⟩,.int .i64 d]=some (some (szL szNd l≤1048577∧0≤d∧d≤100),.tup [.int .i64 (treeO l d).1,.bool (treeO l d).2],[]):=rfl
theorem r_treeO:∀ z,CRow P0 ety0 141 (sp_treeO z)
 | 0=>.absurd (fun args p r outs h hq=>by
   simp only [sp_treeO] at h;split at h<;>cases h
   exact absurd (hq _ rfl).1 (Nat.not_lt_zero _)) (ent_of func141 rfl rfl)
 | z+1=>c_l03OK z (r_treeO z)
theorem c_treeOA:CRow P0 ety0 141 sp_treeOA:=.all (spn:=sp_treeO) (fun _=>rfl) r_treeO (fun args p r outs h hq=>by
 simp only [sp_treeOA] at h;split at h<;>cases h
 rename_i l d
 exact ⟨szNds l+1,_,rfl,fun q hq'=>by cases hq';exact ⟨Nat.lt_succ_self _,hq _ rfl⟩⟩)
mutual
def cntNd:Node→Nat
 | .mk _ _ _ _ _ ks=>1+cntNds ks
def cntNds:List Node→Nat
 | []=>0
 | x :: r=>cntNd x+cntNds r
end
mutual
def goodNd:Node→Int→Bool
 | .mk k s m t a ks,d=>decide (d≤10)&&(ownNd (.mk k s m t a ks)&&holdsNd (.mk k s m t a ks))&&goodNds ks (d+1)
def goodNds:List Node→Int→Bool
 | [],_=>true
 | x :: r,d=>goodNd x d&&goodNds r d
end
mutual
theorem nodeM_good:∀ (x:Node) (d c:Int),(goodNd x d=true∧c+cntNd x≤60→nodeM x d c=(true,c+cntNd x))∧(¬ (goodNd x d=true∧c+cntNd x≤60)→(nodeM x d c).1=false)
 | .mk k s m t a ks,d,c=>by
  rw [nodeM_mk,goodNd,cntNd]
  have ih:=kidsM_good ks (d+1) (c+1)
  by_cases h1:60 < c+1
  ·rw [decide_eq_true h1]
   refine ⟨fun h=>?_,fun _=>rfl⟩
   have:=h.2
   omega
  by_cases h2:10 < d
  ·rw [decide_eq_true h2,decide_eq_false h1,decide_eq_false (show ¬ d≤10 by omega)]
   exact ⟨fun h=>(by simp at h),fun _=>rfl⟩
  rw [decide_eq_false h1,decide_eq_false h2,decide_eq_true (show d≤10 by omega)]
  cases (ownNd (.mk k s m t a ks)&&holdsNd (.mk k s m t a ks)) with
  | false=>exact ⟨fun h=>(by simp at h),fun _=>rfl⟩
  | true =>
   simp only [Bool.true_and,Bool.not_true,Bool.or_false,cond_false]
   have e:c+((1+cntNds ks:Nat):Int)=c+1+cntNds ks:=by omega
   rw [e]
   exact ih (by omega)
theorem kidsM_good:∀ (l:List Node) (d c:Int),c≤60→(goodNds l d=true∧c+cntNds l≤60→kidsM l d c=(true,c+cntNds l))∧(¬ (goodNds l d=true∧c+cntNds l≤60)→(kidsM l d c).1=false)
 | [],d,c,hc=>by
  rw [kidsM,goodNds,cntNds]
  exact ⟨fun _=>by simp,fun h=>absurd ⟨rfl,by simpa using hc⟩ h⟩
 | x :: r,d,c,hc=>by
  rw [kidsM,goodNds,cntNds]
  have h1:=nodeM_good x d c
  by_cases hx:goodNd x d=true∧c+cntNd x≤60
  ·rw [h1.1 hx,hx.1,Bool.true_and]
   have h2:=kidsM_good r d (c+cntNd x) hx.2
   have e:c+((cntNd x+cntNds r:Nat):Int)=c+cntNd x+cntNds r:=by omega
   rw [e]
   exact h2
  ·have hf:=h1.2 hx
   refine ⟨fun h=>absurd ⟨by have:=h.1;rw [Bool.and_eq_true] at this;exact this.1,by have:=h.2;omega⟩ hx,?_⟩
   ·intro _
    revert hf
    cases nodeM x d c with
    | mk b c'=>intro hf;cases hf;rfl
end
def kcnt (l:List Node):Nat:=sumL (fun x=>cntNds (Node.kids x)) l
theorem kcnt_cons (x:Node) (r:List Node):kcnt (x :: r)=cntNds x.kids+kcnt r:=by simp [kcnt,sumL]
theorem cntNds_eq (l:List Node):cntNds l=l.length+kcnt l:=by
 induction l with
 | nil=>rfl
 | cons x r ih =>
  have:cntNd x=1+cntNds x.kids:=by cases x;rw [cntNd];rfl
  rw [cntNds,ih,kcnt_cons,this,List.length_cons];omega
theorem goodNd_eq (x:Node) (d:Int):goodNd x d=(decide (d≤10)&&(ownNd x&&holdsNd x)&&goodNds x.kids (d+1)):=by cases x;rw [goodNd];rfl
mutual
theorem nodeO_good:∀ (x:Node) (e:Int),0≤e→(goodNds x.kids (11 - e)=true∧cntNds x.kids≤60→nodeO x e=(((cntNds x.kids:Nat):Int),true))∧(¬ (goodNds x.kids (11 - e)=true∧cntNds x.kids≤60)→(nodeO x e).2=false)
 | .mk k s m t a ks,e,he=>by
  rw [nodeO]
  show (goodNds ks (11 - e)=true∧cntNds ks≤60→_)∧(¬ (goodNds ks (11 - e)=true∧cntNds ks≤60)→_)
  have hc:=cntNds_eq ks
  by_cases h1:(60:Int) < ks.length
  ·rw [decide_eq_true h1]
   exact ⟨fun h=>by have:=h.2;omega,fun _=>rfl⟩
  rw [decide_eq_false h1,Bool.false_or]
  by_cases h0:e=0∧ks≠[]
  ·obtain ⟨h0,hne⟩:=h0
   cases ks with
   | nil=>exact absurd rfl hne
   | cons x r =>
    rw [decide_eq_true h0]
    refine ⟨fun h=>?_,fun _=>rfl⟩
    have:=h.1
    rw [goodNds,goodNd_eq,decide_eq_false (show ¬ (11 - e)≤10 by omega)] at this
    simp at this
  have hb:(decide (e=0)&&!ks.isEmpty)=false:=by
   by_cases h:e=0
   ·have:ks=[]:=Classical.byContradiction fun hn=>h0 ⟨h,hn⟩
    subst this;simp
   ·rw [decide_eq_false h];rfl
  rw [hb]
  show (goodNds ks (11 - e)=true∧cntNds ks≤60→restO ks e ks.length=(↑(cntNds ks),true))∧(¬ (goodNds ks (11 - e)=true∧cntNds ks≤60)→(restO ks e ks.length).2=false)
  have hr:=restO_good ks e ks.length (by omega) (by omega) (fun hne=>by
   have:e≠0:=fun h=>h0 ⟨h,hne⟩
   omega)
  have ec:((ks.length:Nat):Int)+kcnt ks=(cntNds ks:Nat):=by omega
  rw [ec] at hr
  exact ⟨fun h=>hr.1 ⟨h.1,by omega⟩,fun h=>hr.2 fun h'=>h ⟨h'.1,by omega⟩⟩
theorem restO_good:∀ (l:List Node) (e n:Int),0≤n→n≤60→(l≠[]→1≤e)→(goodNds l (11 - e)=true∧n+kcnt l≤60→restO l e n=(n+kcnt l,true))∧(¬ (goodNds l (11 - e)=true∧n+kcnt l≤60)→(restO l e n).2=false)
 | [],e,n,hn0,hn,he=>by
  rw [restO,goodNds]
  refine ⟨fun _=>by simp [kcnt,sumL],fun h=>absurd ⟨rfl,by simpa [kcnt,sumL] using hn⟩ h⟩
 | x :: r,e,n,hn0,hn,he=>by
  have he1:1≤e:=he (by simp)
  rw [restO,goodNds,goodNd_eq,kcnt_cons]
  rw [decide_eq_true (show 11 - e≤10 by omega),Bool.true_and]
  have hk:=nodeO_good x (e - 1) (by omega)
  have e11:11 - (e - 1)=11 - e+1:=by omega
  rw [e11] at hk
  cases (ownNd x&&holdsNd x) with
  | false=>exact ⟨fun h=>(by simp at h),fun _=>rfl⟩
  | true =>
   simp only [Bool.not_true,cond_false,Bool.true_and]
   by_cases hx:goodNds x.kids (11 - e+1)=true∧cntNds x.kids≤60
   ·rw [hk.1 hx,hx.1,Bool.true_and]
    simp only [Bool.not_true,Bool.false_or]
    by_cases h60:60 < n+(cntNds x.kids:Int)
    ·rw [decide_eq_true h60]
     refine ⟨fun h=>?_,fun _=>rfl⟩
     have:=h.2
     omega
    ·rw [decide_eq_false h60]
     have ih:=restO_good r e (n+cntNds x.kids) (by omega) (by omega) (fun _=>he1)
     have e2:n+((cntNds x.kids+kcnt r:Nat):Int)=n+cntNds x.kids+kcnt r:=by omega
     rw [e2]
     exact ih
   ·have hf:=hk.2 hx
    rw [hf]
    by_cases h60:cntNds x.kids≤60
    ·exact ⟨fun h=>absurd ⟨by have:=h.1;rw [Bool.and_eq_true] at this;exact this.1,h60⟩ hx,fun _=>rfl⟩
    ·refine ⟨fun h=>?_,fun _=>rfl⟩
     have:=h.2;omega
end
theorem tree_eq (l:List Node):(treeO l 10).2=treeOK l:=by
 have h1:=kidsM_good l 1 0 (by omega)
 have h2:=nodeO_good (.mk 0 0 [] [] [] l) 10 (by omega)
 rw [nodeO_eq] at h2
 have e:(Node.mk 0 0 [] [] [] l).kids=l:=rfl
 rw [e] at h2
 have e2:(11:Int) - 10=1:=rfl
 rw [e2] at h2
 by_cases h:goodNds l 1=true∧cntNds l≤60
 ·rw [h2.1 h,treeOK,h1.1 ⟨h.1,by omega⟩]
 ·rw [h2.2 h,treeOK,h1.2 fun h'=>h ⟨h'.1,by omega⟩]
noncomputable def e_treeOKb2:Env:=mk [(141,sp_treeOA)] [] [] [] none
@[push_cast] theorem e_treeOKb2_e:MkE e_treeOKb2 [(141,sp_treeOA)] [] [] [] none:=⟨rfl,rfl,rfl,rfl,rfl,rfl,rfl⟩
theorem c_treeOKb2:CRow P0 ety0 78 sp_treeOKb:=CRow.of (E:=e_treeOKb2) (mkOk (.cons c_treeOA (.nil))) func78 rfl rfl rfl (by
 intro args p r outs h hq
 simp only [sp_treeOKb] at h;split at h<;>cases h
 rename_i l
 have hz:=hq _ rfl
 refine Body.intro (rs:=[.tmp 2]) rfl rfl rfl ?_
 apply vc_run 1000 (stop:=false) rfl;simp only [push_cast,simprocAttr]
 exact ⟨hz,by rw [tree_eq]⟩)
theorem c_treeOK2:CRow P0 ety0 78 sp_treeOK:=.all (spn:=fun _=>sp_treeOKb) (fun _=>rfl) (fun _=>c_treeOKb2) (fun args p r outs h hq=>by
 simp only [sp_treeOK] at h;split at h<;>cases h
 exact ⟨0,_,rfl,fun q hq'=>by cases hq';have:=hq _ rfl;omega⟩)
end Go.Ab
