import Derived.Test.YtjnachnjfdgpgaaGreatDoorFnC
set_option linter.all false
set_option maxRecDepth 20000
set_option maxHeartbeats 1000000
namespace Go.Ab
open Go Go.Proofs.Tryz
def rngB (c a b:UInt8):Bool:=bif decide (a≤c) then decide (c≤b) else false
abbrev smallB (c:UInt8):Bool:=rngB c 97 122
abbrev digitB (c:UInt8):Bool:=rngB c 48 57
noncomputable def sp_isSmall:Spec:=⟨[.sc],[.rd],true,fun
 | [.u8 c]=>some (none,.bool (smallB c),[])
 | _=>none⟩
@[push_cast] theorem sp_isSmall_s:sp_isSmall.ps=[.sc]∧sp_isSmall.modes=[.rd]∧sp_isSmall.pure=true:=⟨rfl,rfl,rfl⟩
@[push_cast] theorem sp_isSmall_run (c:UInt8):sp_isSmall.run [.u8 c]=some (none,.bool (smallB c),[]):=rfl
noncomputable def e_isSmall:Env:=mk [] [] [] [] none
@[push_cast] theorem e_isSmall_e:MkE e_isSmall [] [] [] [] none:=⟨rfl,rfl,rfl,rfl,rfl,rfl,rfl⟩
theorem c_isSmall:CRow P0 ety0 195 sp_isSmall:=CRow.of (E:=e_isSmall) (mkOk (.nil)) func195 rfl rfl rfl (by
 intro args p r outs h hq
 simp only [sp_isSmall] at h;split at h<;>cases h
 refine Body.intro (rs:=[.tmp 2]) rfl rfl rfl ?_
 apply vc_run 1000 (stop:=false) rfl;simp only [push_cast,simprocAttr]
 rfl)
noncomputable def sp_isDigit:Spec:=⟨[.sc],[.rd],true,fun
 | [.u8 c]=>some (none,.bool (digitB c),[])
 | _=>none⟩
@[push_cast] theorem sp_isDigit_s:sp_isDigit.ps=[.sc]∧sp_isDigit.modes=[.rd]∧sp_isDigit.pure=true:=⟨rfl,rfl,rfl⟩
@[push_cast] theorem sp_isDigit_run (c:UInt8):sp_isDigit.run [.u8 c]=some (none,.bool (digitB c),[]):=rfl
noncomputable def e_isDigit:Env:=mk [] [] [] [] none
@[push_cast] theorem e_isDigit_e:MkE e_isDigit [] [] [] [] none:=⟨rfl,rfl,rfl,rfl,rfl,rfl,rfl⟩
theorem c_isDigit:CRow P0 ety0 219 sp_isDigit:=CRow.of (E:=e_isDigit) (mkOk (.nil)) func219 rfl rfl rfl (by
 intro args p r outs h hq
 simp only [sp_isDigit] at h;split at h<;>cases h
 refine Body.intro (rs:=[.tmp 2]) rfl rfl rfl ?_
 apply vc_run 1000 (stop:=false) rfl;simp only [push_cast,simprocAttr]
 rfl)
noncomputable def e_isDigit2:Env:=mk [] [] [] [] none
@[push_cast] theorem e_isDigit2_e:MkE e_isDigit2 [] [] [] [] none:=⟨rfl,rfl,rfl,rfl,rfl,rfl,rfl⟩
theorem c_isDigit2:CRow P0 ety0 213 sp_isDigit:=CRow.of (E:=e_isDigit2) (mkOk (.nil)) func213 rfl rfl rfl (by
 intro args p r outs h hq
 simp only [sp_isDigit] at h;split at h<;>cases h
 refine Body.intro (rs:=[.tmp 2]) rfl rfl rfl ?_
 apply vc_run 1000 (stop:=false) rfl;simp only [push_cast,simprocAttr]
 rfl)
def tagB (c:UInt8) (i:Nat):Bool:=smallB c || (!decide (i=0)&&(digitB c || decide (c=45)))
def tagAt (t:Str) (i:Nat):Bool:=tagB (t.getD i 0) i
theorem tag_bad (c:UInt8) (k:Nat):(bif !smallB c then bif decide ((k:Int)=0) then true else bif !digitB c then !decide (c=45) else false else false)=!tagB c k:=by
 unfold tagB
 cases smallB c<;>cases digitB c<;>by_cases h:k=0<;>simp [h]
theorem fold_small (c:UInt8):(bif decide (97≤c) then decide (c≤122) else false)=smallB c:=rfl
theorem byteAt_k (l:Str) (n:Nat):byteAt l (n:Int)=l.getD n 0:=by simp [byteAt]
def tagOK (t:Str):Bool:=within t.length 1 12&&(List.range t.length).all (tagAt t)
theorem all_no {p:Nat→Bool} {n i:Nat} (h:i < n) (hp:p i=false):(List.range n).all p=false:=by
 rw [List.all_eq_false];exact ⟨i,List.mem_range.2 h,by rw [hp];simp⟩
theorem all_yes {p:Nat→Bool} {n:Nat} (h:∀ j < n,p j=true):(List.range n).all p=true:=by
 rw [List.all_eq_true];exact fun j hj=>h j (List.mem_range.1 hj)
theorem below_step {P:Nat→Prop} {k:Nat} (h:∀ j < k,P j) (hk:P k):∀ j < k+1,P j:=fun j hj=>by
 rcases Nat.lt_or_eq_of_le (Nat.le_of_lt_succ hj) with h' | rfl
 ·exact h j h'
 ·exact hk
noncomputable def sp_tagOK:Spec:=⟨[.sc],[.rd],true,fun
 | [.str t]=>some (some (t.length≤9223372036854775807),.bool (tagOK t),[])
 | _=>none⟩
@[push_cast] theorem sp_tagOK_s:sp_tagOK.ps=[.sc]∧sp_tagOK.modes=[.rd]∧sp_tagOK.pure=true:=⟨rfl,rfl,rfl⟩
@[push_cast] theorem sp_tagOK_run (t:Str):sp_tagOK.run [.str t]=some (some (t.length≤9223372036854775807),.bool (tagOK t),[]):=rfl
noncomputable def e_tagOK:Env:=mk [(195,sp_isSmall),(219,sp_isDigit),(47,sp_within)] [] [] [] none
@[push_cast] theorem e_tagOK_e:MkE e_tagOK [(195,sp_isSmall),(219,sp_isDigit),(47,sp_within)] [] [] [] none:=⟨rfl,rfl,rfl,rfl,rfl,rfl,rfl⟩
theorem c_tagOK:CRow P0 ety0 165 sp_tagOK:=CRow.of (E:=e_tagOK) (mkOk (.cons c_isSmall (.cons c_isDigit (.cons c_within (.nil))))) func165 rfl rfl rfl (by
 intro args p r outs h hq
 simp only [sp_tagOK] at h;split at h<;>cases h
 rename_i t
 have hl:=hq _ rfl
 refine Body.intro (rs:=[.tmp 2]) rfl rfl rfl ?_
 apply vc_run 1000 (stop:=false) rfl;simp only [push_cast,simprocAttr]
 refine Run.loop [7] [0,6] [] rfl (fun m vs bs=>∃ k:Nat,vs=[.int .i64 k]∧bs=[]∧k≤t.length∧(∀ j < k,tagAt t j=true)∧m=t.length - k) t.length ?_ ?_
 ·simp only [push_cast,simprocAttr]
  exact ⟨0,rfl,by omega,by simp,by omega⟩
 rintro m vs bs ⟨k,rfl,rfl,hk,hb,rfl⟩
 simp only [push_cast,simprocAttr]
 apply vc_run 1000 (stop:=false) rfl;simp only [push_cast,simprocAttr]
 refine ⟨fun hlt=>?_,fun hge=>?_⟩
 ·have hlt:k < t.length:=by simpa using hlt
  rw [byteAt_k,tag_bad]
  refine ⟨by omega,fun hy=>?_,fun hn=>⟨by constructor<;>omega,_,by omega,k+1,rfl,by omega,below_step hb ?_,rfl⟩⟩
  ·have hy:tagAt t k=false:=by simpa [tagAt] using hy
   rw [tagOK,all_no hlt hy,Bool.and_false]
  ·simpa [tagAt] using hn
 ·have hge:k=t.length:=by simp at hge;omega
  subst hge
  rw [tagOK,all_yes hb,Bool.and_true])
noncomputable def e_tagOK2:Env:=mk [(45,sp_within),(213,sp_isDigit)] [] [] [] none
@[push_cast] theorem e_tagOK2_e:MkE e_tagOK2 [(45,sp_within),(213,sp_isDigit)] [] [] [] none:=⟨rfl,rfl,rfl,rfl,rfl,rfl,rfl⟩
theorem c_tagOK2:CRow P0 ety0 154 sp_tagOK:=CRow.of (E:=e_tagOK2) (mkOk (.cons c_within2 (.cons c_isDigit2 (.nil)))) func154 rfl rfl rfl (by
 intro args p r outs h hq
 simp only [sp_tagOK] at h;split at h<;>cases h
 rename_i t
 have hl:=hq _ rfl
 refine Body.intro (rs:=[.tmp 2]) rfl rfl rfl ?_
 apply vc_run 1000 (stop:=false) rfl;simp only [push_cast,simprocAttr]
 refine ⟨fun h=>?_,fun h=>?_⟩
 ·have h:within t.length 1 12=false:=by simpa using h
  rw [tagOK,h];rfl
 have h:within t.length 1 12=true:=by simpa using h
 refine Run.loop [3] [0] [] rfl (fun m vs bs=>∃ k:Nat,vs=[.int .i64 k]∧bs=[]∧k≤t.length∧(∀ j < k,tagAt t j=true)∧m=t.length - k) t.length ?_ ?_
 ·simp only [push_cast,simprocAttr]
  exact ⟨0,rfl,by omega,by simp,by omega⟩
 rintro m vs bs ⟨k,rfl,rfl,hk,hb,rfl⟩
 simp only [push_cast,simprocAttr]
 apply vc_run 1000 (stop:=false) rfl;simp only [push_cast,simprocAttr]
 simp only [fold_small]
 refine ⟨fun hlt=>?_,fun hge=>?_⟩
 ·have hlt:k < t.length:=by simpa using hlt
  rw [byteAt_k,tag_bad]
  refine ⟨by omega,fun _=>by omega,fun _=>by omega,fun _=>by omega,fun hy=>?_,fun hn=>⟨by constructor<;>omega,_,by omega,k+1,rfl,by omega,below_step hb ?_,rfl⟩⟩
  ·have hy:tagAt t k=false:=by simpa [tagAt] using hy
   rw [tagOK,all_no hlt hy,Bool.and_false]
  ·simpa [tagAt] using hn
 ·have hge:k=t.length:=by simp at hge;omega
  subst hge
  rw [tagOK,all_yes hb,h];rfl)
def hasS (l:List Str) (x:Str):Bool:=l.contains x
noncomputable def sp_hasS:Spec:=⟨[.sl .str,.sc],[.rd,.rd],true,fun
 | [.dat ⟨.str,l⟩,.str x]=>some (some (l.length≤1073741824),.bool (hasS l x),[])
 | _=>none⟩
@[push_cast] theorem sp_hasS_s:sp_hasS.ps=[.sl .str,.sc]∧sp_hasS.modes=[.rd,.rd]∧sp_hasS.pure=true:=⟨rfl,rfl,rfl⟩
@[push_cast] theorem sp_hasS_run (l:List Str) (x:Str):sp_hasS.run [.dat ⟨.str,l⟩,.str x]=some (some (l.length≤1073741824),.bool (hasS l x),[]):=rfl
theorem has_yes {l:List Str} {x:Str} {k:Nat} (h:k < l.length) (e:l.getD k []=x):hasS l x=true:=by
 unfold hasS;rw [List.contains_iff_mem,← e]
 have:l.getD k []=l[k]:=by simp [List.getD,h]
 rw [this];exact List.getElem_mem h
theorem has_no {l:List Str} {x:Str} (h:∀ j < l.length,¬ l.getD j []=x):hasS l x=false:=by
 unfold hasS
 rw [Bool.eq_false_iff];intro hc
 rw [List.contains_iff_mem] at hc
 obtain ⟨j,hj,e⟩:=List.mem_iff_getElem.1 hc
 exact h j hj (by simp [List.getD,hj,e])
noncomputable def e_hasS2:Env:=mk [] [] [] [] none
@[push_cast] theorem e_hasS2_e:MkE e_hasS2 [] [] [] [] none:=⟨rfl,rfl,rfl,rfl,rfl,rfl,rfl⟩
theorem c_hasS2:CRow P0 ety0 89 sp_hasS:=CRow.of (E:=e_hasS2) (mkOk (.nil)) func89 rfl rfl rfl (by
 intro args p r outs h hq
 simp only [sp_hasS] at h;split at h<;>cases h
 rename_i l x
 have hl:=hq _ rfl
 refine Body.intro (rs:=[.tmp 4]) rfl rfl rfl ?_
 apply vc_run 1000 (stop:=false) rfl;simp only [push_cast,simprocAttr]
 refine Run.loop [5] [0,1] [] rfl (fun m vs bs=>∃ k:Nat,vs=[.int .i64 k]∧bs=[]∧k≤l.length∧(∀ j < k,¬ l.getD j []=x)∧m=l.length - k) l.length ?_ ?_
 ·simp only [push_cast,simprocAttr]
  exact ⟨0,rfl,by omega,by simp,by omega⟩
 rintro m vs bs ⟨k,rfl,rfl,hk,hb,rfl⟩
 simp only [push_cast,simprocAttr]
 apply vc_run 1000 (stop:=false) rfl;simp only [push_cast,simprocAttr]
 refine ⟨fun hlt=>?_,fun hge=>?_⟩
 ·have hlt:k < l.length:=by simpa using hlt
  simp only [gd_nat]
  refine ⟨by omega,fun hy=>?_,fun hn=>⟨by constructor<;>omega,_,by omega,k+1,rfl,by omega,below_step hb (by simpa using hn),rfl⟩⟩
  rw [has_yes hlt (by simpa using hy)]
 ·have hge:k=l.length:=by simp at hge;omega
  subst hge
  rw [has_no hb])
noncomputable def sp_indexS:Spec:=⟨[.sl .str,.sc],[.rd,.rd],true,fun
 | [.dat ⟨.str,l⟩,.str x]=>some (some (l.length≤1073741824),.int .i64 (idx (l.findIdx? fun y=>decide (y=x))),[])
 | _=>none⟩
@[push_cast] theorem sp_indexS_s:sp_indexS.ps=[.sl .str,.sc]∧sp_indexS.modes=[.rd,.rd]∧sp_indexS.pure=true:=⟨rfl,rfl,rfl⟩
@[push_cast] theorem sp_indexS_run (l:List Str) (x:Str):sp_indexS.run [.dat ⟨.str,l⟩,.str x]=some (some (l.length≤1073741824),.int .i64 (idx (l.findIdx? fun y=>decide (y=x))),[]):=rfl
noncomputable def e_indexS:Env:=mk [] [] [] [] none
@[push_cast] theorem e_indexS_e:MkE e_indexS [] [] [] [] none:=⟨rfl,rfl,rfl,rfl,rfl,rfl,rfl⟩
theorem c_indexS:CRow P0 ety0 220 sp_indexS:=CRow.of (E:=e_indexS) (mkOk (.nil)) func220 rfl rfl rfl (by
 intro args p r outs h hq
 simp only [sp_indexS] at h;split at h<;>cases h
 rename_i l x
 have hl:=hq _ rfl
 refine Body.intro (rs:=[.tmp 4]) rfl rfl rfl ?_
 apply vc_run 1000 (stop:=false) rfl;simp only [push_cast,simprocAttr]
 refine Run.loop [8] [0,1,6,7] [] rfl (fun n vs bs=>∃ k:Nat,vs=[.int .i64 k]∧bs=[]∧k≤l.length∧(∀ j < k,decide (l.getD j []=x)=false)∧n=l.length - k) l.length ?_ ?_
 ·simp only [push_cast,simprocAttr]
  exact ⟨0,rfl,by omega,by simp,by omega⟩
 rintro n vs bs ⟨k,rfl,rfl,hk,hb,rfl⟩
 simp only [push_cast,simprocAttr]
 apply vc_run 1000 (stop:=false) rfl;simp only [push_cast,simprocAttr]
 refine ⟨fun hlt=>?_,fun hge=>?_⟩
 ·have hlt:k < l.length:=by simpa using hlt
  simp only [gd_nat]
  refine ⟨by omega,fun hy=>?_,fun hn=>⟨by constructor<;>omega,_,by omega,k+1,rfl,by omega,below_step hb (by rw [← hn];simp [eq_comm]),rfl⟩⟩
  rw [findIdx_at (p:=fun y=>decide (y=x)) hlt hb (by simp at hy;simp [hy])];rfl
 ·have hge:k=l.length:=by simp at hge;omega
  subst hge
  rw [findIdx_none (p:=fun y=>decide (y=x)) hb];rfl)
noncomputable def e_hasS:Env:=mk [(220,sp_indexS)] [] [] [] none
@[push_cast] theorem e_hasS_e:MkE e_hasS [(220,sp_indexS)] [] [] [] none:=⟨rfl,rfl,rfl,rfl,rfl,rfl,rfl⟩
theorem c_hasS:CRow P0 ety0 166 sp_hasS:=CRow.of (E:=e_hasS) (mkOk (.cons c_indexS (.nil))) func166 rfl rfl rfl (by
 intro args p r outs h hq
 simp only [sp_hasS] at h;split at h<;>cases h
 rename_i l x
 have hl:=hq _ rfl
 refine Body.intro (rs:=[.tmp 4]) rfl rfl rfl ?_
 apply vc_run 1000 (stop:=false) rfl;simp only [push_cast,simprocAttr]
 refine ⟨hl,?_⟩
 rw [idx_any,hasS]
 congr 1
 rw [Bool.eq_iff_iff]
 simp)
theorem cut_take {α:Type} (l:List α) (k:Nat):cut l 0 (k:Int)=l.take k:=by simp [cut]
end Go.Ab
