import Derived.Test.YtjnachnjfdgpgaaGreatDoorFnMk
import Derived.Test.YtjnachnjfdgpgaaGreatDoorFnT
set_option linter.all false
set_option maxRecDepth 20000
set_option maxHeartbeats 1000000
namespace Go.Ab
open Go Go.Proofs.Tryz
mutual
def mkNd:Node→Int→Node
 | .mk _ _ _ _ a ks,k=>.mk k (k+1) (mkT (k+2)) (mkT (k+3)) (mkL mkAt two2 a (k+4)) (mkNds ks (k+4+sumL two2 a))
def mkNds:List Node→Int→List Node
 | [],_=>[]
 | x :: r,k=>mkNd x k :: mkNds r (k+cNd x)
def cNd:Node→Nat
 | .mk _ _ _ _ a ks=>4+sumL two2 a+cNds ks
def cNds:List Node→Nat
 | []=>0
 | x :: r=>cNd x+cNds r
end
theorem nd_kind (k s:Int) (m t:Str) (a:List Attr) (ks:List Node):(Node.mk k s m t a ks).kind=k:=rfl
theorem nd_space (k s:Int) (m t:Str) (a:List Attr) (ks:List Node):(Node.mk k s m t a ks).space=s:=rfl
theorem nd_name (k s:Int) (m t:Str) (a:List Attr) (ks:List Node):(Node.mk k s m t a ks).name=m:=rfl
theorem nd_text (k s:Int) (m t:Str) (a:List Attr) (ks:List Node):(Node.mk k s m t a ks).text=t:=rfl
theorem nd_attrs (k s:Int) (m t:Str) (a:List Attr) (ks:List Node):(Node.mk k s m t a ks).attrs=a:=rfl
theorem nd_kids (k s:Int) (m t:Str) (a:List Attr) (ks:List Node):(Node.mk k s m t a ks).kids=ks:=rfl
theorem cNds_eq (l:List Node):cNds l=sumL cNd l:=by
 induction l with
 | nil=>rfl
 | cons x r ih =>
  have e:sumL cNd (x :: r)=cNd x+sumL cNd r:=by simp [sumL]
  rw [cNds,ih,e]
theorem mkNds_eq:∀ (l:List Node) (k:Int),mkNds l k=mkL mkNd cNd l k
 | [],_=>by rw [mkNds,mkL]
 | x :: r,k=>by rw [mkNds,mkL,mkNds_eq r]
theorem mkNd_eq (x:Node) (k:Int):mkNd x k=.mk k (k+1) (mkT (k+2)) (mkT (k+3)) (mkL mkAt two2 x.attrs (k+4)) (mkL mkNd cNd x.kids (k+4+sumL two2 x.attrs)):=by
 cases x;rw [mkNd,mkNds_eq];rfl
theorem cNd_eq (x:Node):cNd x=4+sumL two2 x.attrs+sumL cNd x.kids:=by cases x;rw [cNd,cNds_eq];rfl
theorem cNd_ge (x:Node):1≤cNd x:=by rw [cNd_eq];omega
theorem sum_two (l:List Attr):sumL two2 l=2 * l.length:=by
 induction l with
 | nil=>rfl
 | cons x l ih =>
  have e:sumL two2 (x :: l)=2+sumL two2 l:=by simp [sumL,two2]
  rw [e,ih,List.length_cons];omega
mutual
theorem cNd_sz:∀ x:Node,cNd x≤4+4 * szNd x
 | .mk k s m t a ks=>by
  have h:=cNds_sz ks
  have h2:=sum_two a
  have h3:=szL_len szAt a
  rw [cNd,szNd];omega
theorem cNds_sz:∀ l:List Node,cNds l≤4 * szNds l
 | []=>by simp [cNds]
 | x :: r=>by
  have h1:=cNd_sz x
  have h2:=cNds_sz r
  rw [cNds,szNds];omega
end
mutual
theorem mkNd_c:∀ (x:Node) (k:Int),cNd (mkNd x k)=cNd x
 | .mk _ _ _ _ a ks,k=>by
  rw [mkNd,cNd,cNd,mkNds_c ks,mkL_sum mkAt two2 (fun _ _=>rfl)]
theorem mkNds_c:∀ (l:List Node) (k:Int),cNds (mkNds l k)=cNds l
 | [],_=>by rw [mkNds]
 | x :: r,k=>by rw [mkNds,cNds,cNds,mkNd_c x,mkNds_c r]
end
mutual
theorem mkNd_id:∀ (x:Node) (k:Int),mkNd (mkNd x k) k=mkNd x k
 | .mk _ _ _ _ a ks,k=>by
  rw [mkNd,mkNd,mkL_sum mkAt two2 (fun _ _=>rfl),mkNds_id ks,mkL_idem mkAt two2 (fun _ _=>rfl) (fun _ _=>rfl)]
theorem mkNds_id:∀ (l:List Node) (k:Int),mkNds (mkNds l k) k=mkNds l k
 | [],_=>by rw [mkNds,mkNds]
 | x :: r,k=>by rw [mkNds,mkNds,mkNd_id x,mkNd_c x,mkNds_id r]
end
noncomputable def sp_mkNs (z:Nat):Spec:=⟨[.sl .node,.sc],[.io,.rd],false,fun
 | [.own true ⟨.node,l⟩,.int .i64 k]=>some (some (szNds l < z∧0≤k∧k+sumL cNd l≤1073741824),.int .i64 (k+sumL cNd l),[.own true ⟨.node,mkL mkNd cNd l k⟩])
 | _=>none⟩
@[push_cast] theorem sp_mkNs_s (z:Nat):(sp_mkNs z).ps=[.sl .node,.sc]∧(sp_mkNs z).modes=[.io,.rd]∧(sp_mkNs z).pure=false:=⟨rfl,rfl,rfl⟩
@[push_cast] theorem sp_mkNs_run (z:Nat) (l:List Node) (k:Int):(sp_mkNs z).run [.own true ⟨.node,l⟩,.int .i64 k]=some (some (szNds l < z∧0≤k∧k+sumL cNd l≤1073741824),.int .i64 (k+sumL cNd l),[.own true ⟨.node,mkL mkNd cNd l k⟩]):=rfl
noncomputable def e_markNodes_ (z:Nat):Env:=mk [(42,sp_mkT),(43,sp_mkAts),(18,(sp_mkNs z))] [] [] [] none
@[push_cast] theorem e_markNodes__e (z:Nat):MkE (e_markNodes_ z) [(42,sp_mkT),(43,sp_mkAts),(18,(sp_mkNs z))] [] [] [] none:=⟨rfl,rfl,rfl,rfl,rfl,rfl,rfl⟩
theorem c_markNodes_ (z:Nat) (h_mkNs:CRow P0 ety0 18 (sp_mkNs z)):CRow P0 ety0 18 (sp_mkNs (z+1)):=CRow.of (E:=(e_markNodes_ z)) (mkOk (.cons c_mkT (.cons c_mkAts (.cons h_mkNs (.nil))))) func18 rfl rfl rfl (by
 intro args p r outs h hq
 simp only [sp_mkNs] at h;split at h<;>cases h
 rename_i l k
 obtain ⟨hn,h0,h1⟩:=hq _ rfl
 have hl:=len_sum cNd cNd_ge l
 refine Body.intro (rs:=[.tmp 4]) rfl rfl rfl ?_
 apply vc_run 1000 (stop:=false) rfl;simp only [push_cast,simprocAttr]
 refine Run.loop [1,5] [0] [1000000] rfl (fun n vs bs=>∃ j:Nat,vs=[.int .i64 (k+sumL cNd (l.take j)),.int .i64 j]∧bs=[[.own true ⟨.node,mkP mkNd cNd l k j⟩]]∧j≤l.length∧n=l.length - j) l.length ?_ ?_
 ·simp only [push_cast,simprocAttr]
  exact ⟨0,by simp [sumL],by rw [mkP_0],by omega,by omega⟩
 rintro n vs bs ⟨j,rfl,rfl,hj,rfl⟩
 simp only [push_cast,simprocAttr]
 apply vc_run 1000 (stop:=false) rfl;simp only [push_cast,simprocAttr]
 rw [mkP_len]
 refine ⟨fun hlt=>?_,fun hge=>?_⟩
 ·have hlt:j < l.length:=Int.ofNat_lt.1 (of_decide_eq_true hlt)
  have hset:=mkP_set mkNd cNd k nodeD hlt
  have hget:=mkP_get mkNd cNd k nodeD hlt
  have hst:=sumL_step cNd nodeD hlt
  have htl:=sumL_take_le cNd l (j+1)
  have hgs:∀ y,((mkP mkNd cNd l k j).set j y).getD j nodeD=y:=fun y=>by
   have:j < (mkP mkNd cNd l k j).length:=by rw [mkP_len];exact hlt
   simp [List.getD,this]
  simp only [gd_nat,hget,Int.toNat_natCast,List.length_set,mkP_len,List.set_set,hgs,nd_kind,nd_space,nd_name,nd_text,nd_attrs,nd_kids]
  have e1:=cNd_eq (l.getD j nodeD)
  have e4:k+(sumL cNd (l.take j):Int)+1+1+1+1=k+(sumL cNd (l.take j):Int)+4:=by omega
  have e3:k+(sumL cNd (l.take j):Int)+1+1+1=k+(sumL cNd (l.take j):Int)+3:=by omega
  have e2:k+(sumL cNd (l.take j):Int)+1+1=k+(sumL cNd (l.take j):Int)+2:=by omega
  rw [e4,e3,e2]
  rw [mkNd_eq] at hset
  refine ⟨by omega,by constructor<;>omega,by omega,by constructor<;>omega,by omega,by omega,by constructor<;>omega,by omega,by omega,by constructor<;>omega,by omega,⟨by omega,by omega⟩,by omega,⟨kid_lt hn hlt,by omega,by omega⟩,by constructor<;>omega,_,?_,j+1,?_,?_,by omega,rfl⟩
  ·omega
  ·rw [hst,e1];congr 2;omega
  ·rw [← hset]
 ·have hge:j=l.length:=by have:=of_decide_eq_false hge;omega
  subst hge
  rw [List.take_length,mkP_all]
  exact ⟨rfl,rfl⟩)
noncomputable def sp_hdNs (z:Nat):Spec:=⟨[.sl .node,.sc],[.rd,.rd],true,fun
 | [.dat ⟨.node,l⟩,.int .i64 k]=>some (some (szNds l < z∧0≤k∧k+sumL cNd l≤1073741824∧Mkd mkNd cNd l k),.int .i64 (k+sumL cNd l),[])
 | _=>none⟩
@[push_cast] theorem sp_hdNs_s (z:Nat):(sp_hdNs z).ps=[.sl .node,.sc]∧(sp_hdNs z).modes=[.rd,.rd]∧(sp_hdNs z).pure=true:=⟨rfl,rfl,rfl⟩
@[push_cast] theorem sp_hdNs_run (z:Nat) (l:List Node) (k:Int):(sp_hdNs z).run [.dat ⟨.node,l⟩,.int .i64 k]=some (some (szNds l < z∧0≤k∧k+sumL cNd l≤1073741824∧Mkd mkNd cNd l k),.int .i64 (k+sumL cNd l),[]):=rfl
noncomputable def e_heldNodes_ (z:Nat):Env:=mk [(42,sp_mkT),(44,sp_hdAts),(19,(sp_hdNs z))] [(10,[],[(true,[0,1,2,3,4,5,6,7],[])]),(13,[],[(true,[0,1,2,3,4,5,6,7],[])])] [] [] none
@[push_cast] theorem e_heldNodes__e (z:Nat):MkE (e_heldNodes_ z) [(42,sp_mkT),(44,sp_hdAts),(19,(sp_hdNs z))] [(10,[],[(true,[0,1,2,3,4,5,6,7],[])]),(13,[],[(true,[0,1,2,3,4,5,6,7],[])])] [] [] none:=⟨rfl,rfl,rfl,rfl,rfl,rfl,rfl⟩
theorem c_heldNodes_ (z:Nat) (h_hdNs:CRow P0 ety0 19 (sp_hdNs z)):CRow P0 ety0 19 (sp_hdNs (z+1)):=CRow.of (E:=(e_heldNodes_ z)) (mkOk (.cons c_mkT (.cons c_hdAts (.cons h_hdNs (.nil))))) func19 rfl rfl rfl (by
 intro args p r outs h hq
 simp only [sp_hdNs] at h;split at h<;>cases h
 rename_i l k
 obtain ⟨hn,h0,h1,hm⟩:=hq _ rfl
 have hl:=len_sum cNd cNd_ge l
 refine Body.intro (rs:=[.tmp 4]) rfl rfl rfl ?_
 apply vc_run 1000 (stop:=false) rfl;simp only [push_cast,simprocAttr]
 refine Run.loop [1,5] [0] [] rfl (fun n vs bs=>∃ j:Nat,vs=[.int .i64 (k+sumL cNd (l.take j)),.int .i64 j]∧bs=[]∧j≤l.length∧n=l.length - j) l.length ?_ ?_
 ·simp only [push_cast,simprocAttr]
  exact ⟨0,by simp [sumL],by omega,by omega⟩
 rintro n vs bs ⟨j,rfl,rfl,hj,rfl⟩
 simp only [push_cast,simprocAttr]
 apply vc_run 1000 (stop:=false) rfl;simp only [push_cast,simprocAttr]
 refine ⟨fun hlt=>?_,fun hge=>?_⟩
 ·have hlt:j < l.length:=Int.ofNat_lt.1 (of_decide_eq_true hlt)
  have hat:=hm.at nodeD hlt
  have hst:=sumL_step cNd nodeD hlt
  have htl:=sumL_take_le cNd l (j+1)
  simp only [gd_nat]
  have e1:=cNd_eq (l.getD j nodeD)
  have e4:k+(sumL cNd (l.take j):Int)+1+1+1+1=k+(sumL cNd (l.take j):Int)+4:=by omega
  have e3:k+(sumL cNd (l.take j):Int)+1+1+1=k+(sumL cNd (l.take j):Int)+3:=by omega
  have e2:k+(sumL cNd (l.take j):Int)+1+1=k+(sumL cNd (l.take j):Int)+2:=by omega
  rw [e4,e3,e2]
  rw [mkNd_eq] at hat
  have f1:(l.getD j nodeD).kind=k+sumL cNd (l.take j):=congrArg Node.kind hat
  have f2:(l.getD j nodeD).space=k+sumL cNd (l.take j)+1:=congrArg Node.space hat
  have f3:(l.getD j nodeD).name=mkT (k+sumL cNd (l.take j)+2):=congrArg Node.name hat
  have f4:(l.getD j nodeD).text=mkT (k+sumL cNd (l.take j)+3):=congrArg Node.text hat
  have f5:Mkd mkAt two2 (l.getD j nodeD).attrs (k+sumL cNd (l.take j)+4):=by
   exact congrArg Node.attrs hat
  have f6:Mkd mkNd cNd (l.getD j nodeD).kids (k+sumL cNd (l.take j)+4+sumL two2 (l.getD j nodeD).attrs):=by
   exact congrArg Node.kids hat
  rw [f1,f2,f3,f4]
  refine ⟨by omega,fun h=>by simp at h,fun _=>⟨by constructor<;>omega,by omega,fun h=>by simp at h,fun _=>⟨by constructor<;>omega,by omega,by omega,fun h=>by simp at h,fun _=>⟨by constructor<;>omega,by omega,by omega,fun h=>by simp at h,fun _ =>
   ⟨by constructor<;>omega,by omega,⟨by omega,by omega,f5⟩,fun h=>by have:=of_decide_eq_true h;omega,fun _=>⟨by omega,⟨kid_lt hn hlt,by omega,by omega,f6⟩,fun h=>by have:=of_decide_eq_true h;omega,fun _=>⟨by constructor<;>omega,_,?_,j+1,?_,by omega,rfl⟩⟩⟩⟩⟩⟩⟩
  ·omega
  ·rw [hst,e1];congr 2;omega
 ·have hge:j=l.length:=by have:=of_decide_eq_false hge;omega
  subst hge
  rw [List.take_length])
noncomputable def sp_mkNodes:Spec:=⟨[.sl .node,.sc],[.io,.rd],false,fun
 | [.own true ⟨.node,l⟩,.int .i64 k]=>some (some (0≤k∧k+sumL cNd l≤1073741824),.int .i64 (k+sumL cNd l),[.own true ⟨.node,mkL mkNd cNd l k⟩])
 | _=>none⟩
@[push_cast] theorem sp_mkNodes_s:sp_mkNodes.ps=[.sl .node,.sc]∧sp_mkNodes.modes=[.io,.rd]∧sp_mkNodes.pure=false:=⟨rfl,rfl,rfl⟩
@[push_cast] theorem sp_mkNodes_run (l:List Node) (k:Int):sp_mkNodes.run [.own true ⟨.node,l⟩,.int .i64 k]=some (some (0≤k∧k+sumL cNd l≤1073741824),.int .i64 (k+sumL cNd l),[.own true ⟨.node,mkL mkNd cNd l k⟩]):=rfl
theorem r_mkNs:∀ z,CRow P0 ety0 18 (sp_mkNs z)
 | 0=>.absurd (fun args p r outs h hq=>by
   simp only [sp_mkNs] at h;split at h<;>cases h
   exact absurd (hq _ rfl).1 (Nat.not_lt_zero _)) (ent_of func18 rfl rfl)
 | z+1=>c_markNodes_ z (r_mkNs z)
theorem c_mkNodes:CRow P0 ety0 18 sp_mkNodes:=.all (spn:=sp_mkNs) (fun _=>rfl) r_mkNs (fun args p r outs h hq=>by
 simp only [sp_mkNodes] at h;split at h<;>cases h
 rename_i l k
 exact ⟨szNds l+1,_,rfl,fun q hq'=>by cases hq';exact ⟨Nat.lt_succ_self _,hq _ rfl⟩⟩)
noncomputable def sp_hdNodes:Spec:=⟨[.sl .node,.sc],[.rd,.rd],true,fun
 | [.dat ⟨.node,l⟩,.int .i64 k]=>some (some (0≤k∧k+sumL cNd l≤1073741824∧Mkd mkNd cNd l k),.int .i64 (k+sumL cNd l),[])
 | _=>none⟩
@[push_cast] theorem sp_hdNodes_s:sp_hdNodes.ps=[.sl .node,.sc]∧sp_hdNodes.modes=[.rd,.rd]∧sp_hdNodes.pure=true:=⟨rfl,rfl,rfl⟩
@[push_cast] theorem sp_hdNodes_run (l:List Node) (k:Int):sp_hdNodes.run [.dat ⟨.node,l⟩,.int .i64 k]=some (some (0≤k∧k+sumL cNd l≤1073741824∧Mkd mkNd cNd l k),.int .i64 (k+sumL cNd l),[]):=rfl
theorem r_hdNs:∀ z,CRow P0 ety0 19 (sp_hdNs z)
 | 0=>.absurd (fun args p r outs h hq=>by
   simp only [sp_hdNs] at h;split at h<;>cases h
   exact absurd (hq _ rfl).1 (Nat.not_lt_zero _)) (ent_of func19 rfl rfl)
 | z+1=>c_heldNodes_ z (r_hdNs z)
theorem c_hdNodes:CRow P0 ety0 19 sp_hdNodes:=.all (spn:=sp_hdNs) (fun _=>rfl) r_hdNs (fun args p r outs h hq=>by
 simp only [sp_hdNodes] at h;split at h<;>cases h
 rename_i l k
 exact ⟨szNds l+1,_,rfl,fun q hq'=>by cases hq';exact ⟨Nat.lt_succ_self _,hq _ rfl⟩⟩)
end Go.Ab
