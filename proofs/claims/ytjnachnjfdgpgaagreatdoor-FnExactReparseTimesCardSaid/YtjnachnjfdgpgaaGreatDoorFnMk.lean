import Derived.Test.YtjnachnjfdgpgaaGreatDoorFnD
set_option linter.all false
set_option maxRecDepth 20000
set_option maxHeartbeats 1000000
namespace Go.Ab
open Go Go.Proofs.Tryz
def mdig (n:Nat):Str:=if h:n=0 then [] else mdig (n / 10)++[UInt8.ofNat (48+n % 10)]
 termination_by n
 decreasing_by omega
theorem mdig_0:mdig 0=[]:=by rw [mdig];rfl
theorem mdig_pos {n:Nat} (h:0 < n):mdig n=mdig (n / 10)++[UInt8.ofNat (48+n % 10)]:=by rw [mdig,dif_neg (by omega)]
theorem mdig_len (n:Nat):(mdig n).length≤n:=by
 induction n using Nat.strongRecOn with
 | _ n ih =>
  by_cases h:n=0
  ·subst h;rw [mdig_0];exact Nat.le_refl _
  ·have:=ih (n / 10) (by omega)
   rw [mdig_pos (by omega),List.length_append,List.length_singleton];omega
def mkT (k:Int):Str:=bif decide (k≤0) then [109,48] else 109 :: mdig k.toNat
noncomputable def sp_mkT:Spec:=⟨[.sc],[.rd],true,fun
 | [.int .i64 k]=>some (some (k≤1099511627776),.str (mkT k),[])
 | _=>none⟩
@[push_cast] theorem sp_mkT_s:sp_mkT.ps=[.sc]∧sp_mkT.modes=[.rd]∧sp_mkT.pure=true:=⟨rfl,rfl,rfl⟩
@[push_cast] theorem sp_mkT_run (k:Int):sp_mkT.run [.int .i64 k]=some (some (k≤1099511627776),.str (mkT k),[]):=rfl
noncomputable def e_mkT:Env:=mk [] [] [] [] none
@[push_cast] theorem e_mkT_e:MkE e_mkT [] [] [] [] none:=⟨rfl,rfl,rfl,rfl,rfl,rfl,rfl⟩
theorem c_mkT:CRow P0 ety0 42 sp_mkT:=CRow.of (E:=e_mkT) (mkOk (.nil)) func42 rfl rfl rfl (by
 intro args p r outs h hq
 simp only [sp_mkT] at h;split at h<;>cases h
 rename_i k
 have hz:=hq _ rfl
 refine Body.intro (rs:=[.tmp 2]) rfl rfl rfl ?_
 apply vc_run 1000 (stop:=false) rfl;simp only [push_cast,simprocAttr]
 refine ⟨fun h=>?_,fun h=>?_⟩
 ·rw [mkT,h];rfl
 have h0:0 < k:=by have:=of_decide_eq_false h;omega
 have hm:mkT k=109 :: mdig k.toNat:=by rw [mkT,h];rfl
 have hml:=mdig_len k.toNat
 rw [hm]
 refine Run.loop [0,3] [] [] rfl (fun n vs bs=>∃ (j:Nat) (out:Str),vs=[.int .i64 j,.str out]∧bs=[]∧mdig k.toNat=mdig j++out∧(j:Int)≤1099511627776∧n=j) k.toNat ?_ ?_
 ·simp only [push_cast,simprocAttr]
  exact ⟨k.toNat,[],by rw [show ((k.toNat:Nat):Int)=k by omega],by simp,by omega,rfl⟩
 rintro n vs bs ⟨j,out,rfl,rfl,he,hj,hnj⟩
 subst n
 simp only [push_cast,simprocAttr]
 apply vc_run 1000 (stop:=false) rfl;simp only [push_cast,simprocAttr]
 have hol:out.length≤k.toNat:=by
  have:=congrArg List.length he
  rw [List.length_append] at this;omega
 refine ⟨fun hy=>?_,fun hn=>?_⟩
 ·have hp:0 < j:=by have:=of_decide_eq_true hy;omega
  have hd:=mdig_pos hp
  refine ⟨by omega,by constructor<;>omega,by constructor<;>omega,by omega,by omega,_,?_,j / 10,UInt8.ofNat (48+j % 10) :: out,?_,?_,by omega,rfl⟩
  ·omega
  ·have e1:((j:Int) / 10)=((j / 10:Nat):Int):=by omega
   have e2:(48+(j:Int) % 10).toNat=48+j % 10:=by omega
   rw [e1,e2]
  ·rw [he,hd,List.append_assoc];rfl
 ·have hp:j=0:=by have:=of_decide_eq_false hn;omega
  subst hp
  rw [mdig_0,List.nil_append] at he
  exact ⟨by omega,by rw [he]⟩)
def mkL {α:Type} (f:α→Int→α) (c:α→Nat):List α→Int→List α
 | [],_=>[]
 | x :: r,k=>f x k :: mkL f c r (k+c x)
theorem mkL_append {α:Type} (f:α→Int→α) (c:α→Nat):∀ (l r:List α) (k:Int),mkL f c (l++r) k=mkL f c l k++mkL f c r (k+sumL c l)
 | [],r,k=>by simp [mkL,sumL]
 | x :: l,r,k=>by
  have e:sumL c (x :: l)=c x+sumL c l:=by simp [sumL]
  rw [List.cons_append,mkL,mkL,mkL_append f c l r,e,List.cons_append]
  congr 3
  omega
theorem mkL_len {α:Type} (f:α→Int→α) (c:α→Nat):∀ (l:List α) (k:Int),(mkL f c l k).length=l.length
 | [],_=>rfl
 | x :: l,k=>by rw [mkL,List.length_cons,mkL_len f c l,List.length_cons]
def mkP {α:Type} (f:α→Int→α) (c:α→Nat) (l:List α) (k:Int) (j:Nat):List α:=mkL f c (l.take j) k++l.drop j
theorem mkP_len {α:Type} (f:α→Int→α) (c:α→Nat) (l:List α) (k:Int) (j:Nat):(mkP f c l k j).length=l.length:=by
 unfold mkP;rw [List.length_append,mkL_len,List.length_take,List.length_drop];omega
theorem mkP_0 {α:Type} (f:α→Int→α) (c:α→Nat) (l:List α) (k:Int):mkP f c l k 0=l:=by simp [mkP,mkL]
theorem mkP_all {α:Type} (f:α→Int→α) (c:α→Nat) (l:List α) (k:Int):mkP f c l k l.length=mkL f c l k:=by simp [mkP]
theorem mkP_get {α:Type} (f:α→Int→α) (c:α→Nat) {l:List α} (k:Int) (d:α) {j:Nat} (h:j < l.length):(mkP f c l k j).getD j d=l.getD j d:=by
 unfold mkP
 have e:(mkL f c (l.take j) k).length=j:=by rw [mkL_len,List.length_take];omega
 rw [List.getD,List.getD,List.getElem?_append_right (by omega),e,Nat.sub_self,List.getElem?_drop,Nat.add_zero]
theorem mkP_set {α:Type} (f:α→Int→α) (c:α→Nat) {l:List α} (k:Int) (d:α) {j:Nat} (h:j < l.length):(mkP f c l k j).set j (f (l.getD j d) (k+sumL c (l.take j)))=mkP f c l k (j+1):=by
 unfold mkP
 have e:(mkL f c (l.take j) k).length=j:=by rw [mkL_len,List.length_take];omega
 have et:l.take (j+1)=l.take j++[l.getD j d]:=by
  rw [List.take_succ_eq_append_getElem h];simp [List.getD,h]
 rw [et,mkL_append,List.drop_eq_getElem_cons h,List.set_append_right _ _ (by omega),e,Nat.sub_self,List.set_cons_zero]
 simp [mkL]
theorem mkL_idem {α:Type} (f:α→Int→α) (c:α→Nat) (hf:∀ x k,f (f x k) k=f x k) (hc:∀ x k,c (f x k)=c x):∀ (l:List α) (k:Int),mkL f c (mkL f c l k) k=mkL f c l k
 | [],_=>rfl
 | x :: l,k=>by rw [mkL,mkL,hf,hc,mkL_idem f c hf hc l]
theorem mkL_at {α:Type} (f:α→Int→α) (c:α→Nat) (d:α):∀ {l:List α} {k:Int} {j:Nat},j < l.length→(mkL f c l k).getD j d=f (l.getD j d) (k+sumL c (l.take j))
 | x :: l,k,0,_=>by simp [mkL,sumL]
 | x :: l,k,j+1,h=>by
  have:=mkL_at f c d (l:=l) (k:=k+c x) (j:=j) (by simpa using h)
  simp only [mkL,List.getD_cons_succ,List.take_succ_cons] at this ⊢
  rw [this]
  have e:sumL c (x :: l.take j)=c x+sumL c (l.take j):=by simp [sumL]
  rw [e]
  congr 1
  omega
theorem sumL_step {α:Type} (c:α→Nat) {l:List α} (d:α) {j:Nat} (h:j < l.length):sumL c (l.take (j+1))=sumL c (l.take j)+c (l.getD j d):=sumL_take c l d h
theorem mkL_sum {α:Type} (f:α→Int→α) (c:α→Nat) (hc:∀ x k,c (f x k)=c x):∀ (l:List α) (k:Int),sumL c (mkL f c l k)=sumL c l
 | [],_=>rfl
 | x :: l,k=>by
  have e:∀ (y:α) (r:List α),sumL c (y :: r)=c y+sumL c r:=fun y r=>by simp [sumL]
  rw [mkL,e,e,hc,mkL_sum f c hc l]
theorem len_sum {α:Type} (c:α→Nat) (h:∀ x,1≤c x) (l:List α):l.length≤sumL c l:=by
 induction l with
 | nil=>exact Nat.le_refl _
 | cons x l ih =>
  have e:sumL c (x :: l)=c x+sumL c l:=by simp [sumL]
  have:=h x
  rw [e,List.length_cons];omega
def Mkd {α:Type} (f:α→Int→α) (c:α→Nat) (l:List α) (k:Int):Prop:=l=mkL f c l k
theorem Mkd.at {α:Type} {f:α→Int→α} {c:α→Nat} {l:List α} {k:Int} (h:Mkd f c l k) (d:α) {j:Nat} (hj:j < l.length):l.getD j d=f (l.getD j d) (k+sumL c (l.take j)):=by
 have:=mkL_at f c d (k:=k) hj
 unfold Mkd at h
 rw [← h] at this
 exact this
def mkAt (_:Attr) (k:Int):Attr:=⟨mkT k,mkT (k+1)⟩
def two2 (_:Attr):Nat:=2
noncomputable def sp_mkAts:Spec:=⟨[.sl .attr,.sc],[.io,.rd],false,fun
 | [.own true ⟨.attr,l⟩,.int .i64 k]=>some (some (0≤k∧k+sumL two2 l≤1073741824),.int .i64 (k+sumL two2 l),[.own true ⟨.attr,mkL mkAt two2 l k⟩])
 | _=>none⟩
@[push_cast] theorem sp_mkAts_s:sp_mkAts.ps=[.sl .attr,.sc]∧sp_mkAts.modes=[.io,.rd]∧sp_mkAts.pure=false:=⟨rfl,rfl,rfl⟩
@[push_cast] theorem sp_mkAts_run (l:List Attr) (k:Int):sp_mkAts.run [.own true ⟨.attr,l⟩,.int .i64 k]=some (some (0≤k∧k+sumL two2 l≤1073741824),.int .i64 (k+sumL two2 l),[.own true ⟨.attr,mkL mkAt two2 l k⟩]):=rfl
noncomputable def e_mkAts:Env:=mk [(42,sp_mkT)] [] [] [] none
@[push_cast] theorem e_mkAts_e:MkE e_mkAts [(42,sp_mkT)] [] [] [] none:=⟨rfl,rfl,rfl,rfl,rfl,rfl,rfl⟩
theorem c_mkAts:CRow P0 ety0 43 sp_mkAts:=CRow.of (E:=e_mkAts) (mkOk (.cons c_mkT (.nil))) func43 rfl rfl rfl (by
 intro args p r outs h hq
 simp only [sp_mkAts] at h;split at h<;>cases h
 rename_i l k
 obtain ⟨h0,h1⟩:=hq _ rfl
 have hl:=len_sum two2 (fun x=>by simp only [two2];omega) l
 refine Body.intro (rs:=[.tmp 4]) rfl rfl rfl ?_
 apply vc_run 1000 (stop:=false) rfl;simp only [push_cast,simprocAttr]
 refine Run.loop [1,5] [0] [1000000] rfl (fun n vs bs=>∃ j:Nat,vs=[.int .i64 (k+sumL two2 (l.take j)),.int .i64 j]∧bs=[[.own true ⟨.attr,mkP mkAt two2 l k j⟩]]∧j≤l.length∧n=l.length - j) l.length ?_ ?_
 ·simp only [push_cast,simprocAttr]
  exact ⟨0,by simp [sumL],by rw [mkP_0],by omega,by omega⟩
 rintro n vs bs ⟨j,rfl,rfl,hj,rfl⟩
 simp only [push_cast,simprocAttr]
 apply vc_run 1000 (stop:=false) rfl;simp only [push_cast,simprocAttr]
 rw [mkP_len]
 refine ⟨fun hlt=>?_,fun hge=>?_⟩
 ·have hlt:j < l.length:=Int.ofNat_lt.1 (of_decide_eq_true hlt)
  have hset:=mkP_set mkAt two2 k attrD hlt
  have hget:=mkP_get mkAt two2 k attrD hlt
  have hst:=sumL_step two2 attrD hlt
  have htl:=sumL_take_le two2 l (j+1)
  have hgs:∀ y,((mkP mkAt two2 l k j).set j y).getD j attrD=y:=fun y=>by
   have:j < (mkP mkAt two2 l k j).length:=by rw [mkP_len];exact hlt
   simp [List.getD,this]
  simp only [gd_nat,hget,Int.toNat_natCast,List.length_set,mkP_len,List.set_set,hgs]
  have e1:two2 (l.getD j attrD)=2:=rfl
  refine ⟨by omega,by omega,by constructor<;>omega,by omega,by omega,by constructor<;>omega,by constructor<;>omega,_,?_,j+1,?_,?_,by omega,rfl⟩
  ·omega
  ·rw [hst,e1];congr 2;omega
  ·rw [← hset];rfl
 ·have hge:j=l.length:=by have:=of_decide_eq_false hge;omega
  subst hge
  rw [List.take_length,mkP_all]
  exact ⟨rfl,rfl⟩)
noncomputable def sp_hdAts:Spec:=⟨[.sl .attr,.sc],[.rd,.rd],true,fun
 | [.dat ⟨.attr,l⟩,.int .i64 k]=>some (some (0≤k∧k+sumL two2 l≤1073741824∧Mkd mkAt two2 l k),.int .i64 (k+sumL two2 l),[])
 | _=>none⟩
@[push_cast] theorem sp_hdAts_s:sp_hdAts.ps=[.sl .attr,.sc]∧sp_hdAts.modes=[.rd,.rd]∧sp_hdAts.pure=true:=⟨rfl,rfl,rfl⟩
@[push_cast] theorem sp_hdAts_run (l:List Attr) (k:Int):sp_hdAts.run [.dat ⟨.attr,l⟩,.int .i64 k]=some (some (0≤k∧k+sumL two2 l≤1073741824∧Mkd mkAt two2 l k),.int .i64 (k+sumL two2 l),[]):=rfl
noncomputable def e_hdAts:Env:=mk [(42,sp_mkT)] [(4,[],[(true,[0,1,2,3,4,5,6,7],[])]),(7,[],[(true,[0,1,2,3,4,5,6,7],[])])] [] [] none
@[push_cast] theorem e_hdAts_e:MkE e_hdAts [(42,sp_mkT)] [(4,[],[(true,[0,1,2,3,4,5,6,7],[])]),(7,[],[(true,[0,1,2,3,4,5,6,7],[])])] [] [] none:=⟨rfl,rfl,rfl,rfl,rfl,rfl,rfl⟩
theorem c_hdAts:CRow P0 ety0 44 sp_hdAts:=CRow.of (E:=e_hdAts) (mkOk (.cons c_mkT (.nil))) func44 rfl rfl rfl (by
 intro args p r outs h hq
 simp only [sp_hdAts] at h;split at h<;>cases h
 rename_i l k
 obtain ⟨h0,h1,hm⟩:=hq _ rfl
 have hl:=len_sum two2 (fun x=>by simp only [two2];omega) l
 refine Body.intro (rs:=[.tmp 4]) rfl rfl rfl ?_
 apply vc_run 1000 (stop:=false) rfl;simp only [push_cast,simprocAttr]
 refine Run.loop [1,5] [0] [] rfl (fun n vs bs=>∃ j:Nat,vs=[.int .i64 (k+sumL two2 (l.take j)),.int .i64 j]∧bs=[]∧j≤l.length∧n=l.length - j) l.length ?_ ?_
 ·simp only [push_cast,simprocAttr]
  exact ⟨0,by simp [sumL],by omega,by omega⟩
 rintro n vs bs ⟨j,rfl,rfl,hj,rfl⟩
 simp only [push_cast,simprocAttr]
 apply vc_run 1000 (stop:=false) rfl;simp only [push_cast,simprocAttr]
 refine ⟨fun hlt=>?_,fun hge=>?_⟩
 ·have hlt:j < l.length:=Int.ofNat_lt.1 (of_decide_eq_true hlt)
  have hat:=hm.at attrD hlt
  have hst:=sumL_step two2 attrD hlt
  have htl:=sumL_take_le two2 l (j+1)
  simp only [gd_nat]
  have e1:two2 (l.getD j attrD)=2:=rfl
  have h1':(l.getD j attrD).name=mkT (k+sumL two2 (l.take j)):=by rw [hat];rfl
  have h2':(l.getD j attrD).value=mkT (k+sumL two2 (l.take j)+1):=by rw [hat];rfl
  rw [h1',h2']
  refine ⟨by omega,by omega,fun h=>by simp at h,fun _=>⟨by constructor<;>omega,by omega,by omega,fun h=>by simp at h,fun _=>⟨by constructor<;>omega,by constructor<;>omega,_,?_,j+1,?_,by omega,rfl⟩⟩⟩
  ·omega
  ·rw [hst,e1];congr 2;omega
 ·have hge:j=l.length:=by have:=of_decide_eq_false hge;omega
  subst hge
  rw [List.take_length])
end Go.Ab
