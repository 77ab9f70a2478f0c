import Derived.Test.YtjnachnjfdgpgaaGreatDoorFnU
set_option linter.all false
set_option maxRecDepth 20000
set_option maxHeartbeats 1000000
namespace Go.Ab
open Go Go.Proofs.Tryz
@[push_cast] theorem attr_dec (a b:Attr):(decide (a.name=b.name) && decide (a.value=b.value))=eqB a b:=by
 by_cases h:a=b
 ·subst h;simp [eqB_self]
 ·rw [eqB_ne h]
  cases a;cases b
  simp at h ⊢
  intro h1 h2
  exact h h1 h2
noncomputable def sp_sameAttrs:Spec:=⟨[.sl .attr,.sl .attr],[.rd,.rd],true,fun
 | [.dat ⟨.attr,a⟩,.dat ⟨.attr,b⟩]=>some (some (a.length≤1073741824),.bool (eqB a b),[])
 | _=>none⟩
@[push_cast] theorem sp_sameAttrs_s:sp_sameAttrs.ps=[.sl .attr,.sl .attr]∧sp_sameAttrs.modes=[.rd,.rd]∧sp_sameAttrs.pure=true:=⟨rfl,rfl,rfl⟩
@[push_cast] theorem sp_sameAttrs_run (a b:List Attr):sp_sameAttrs.run [.dat ⟨.attr,a⟩,.dat ⟨.attr,b⟩]=some (some (a.length≤1073741824),.bool (eqB a b),[]):=rfl
noncomputable def e_sameAttrs:Env:=mk [] [(6,[],[(true,[0,1,2,3,4,5,6,7,8],[])])] [] [] none
@[push_cast] theorem e_sameAttrs_e:e_sameAttrs.inl=inlF []∧e_sameAttrs.fnd=fndF none∧e_sameAttrs.gh=ghOf []∧e_sameAttrs.dr=drOf [(6,[],[(true,[0,1,2,3,4,5,6,7,8],[])])]∧e_sameAttrs.td=td∧e_sameAttrs.eqt=eqt∧e_sameAttrs.cal=calOf []:=⟨rfl,rfl,rfl,rfl,rfl,rfl,rfl⟩
theorem c_sameAttrs:CRow P0 ety0 206 sp_sameAttrs:=CRow.of (E:=e_sameAttrs) (mkOk (.nil)) func206 rfl rfl rfl (by
 intro args p r outs h hq
 simp only [sp_sameAttrs] at h;split at h<;>cases h
 rename_i a b
 have hl:=hq _ rfl
 refine Body.intro (rs:=[.tmp 4]) rfl rfl rfl ?_
 apply vc_run 1000 (stop:=false) rfl;simp only [push_cast,simprocAttr]
 refine ⟨fun h=>?_,fun h=>?_⟩
 ·rw [eqB_ne];intro e;subst e;simp at h
 have h:a.length=b.length:=by simp at h;omega
 refine Run.loop [13] [0,1,12] [] rfl (fun m vs bs=>∃ k:Nat,vs=[.int .i64 k]∧bs=[]∧k≤a.length∧(∀ j < k,a.getD j attrD=b.getD j attrD)∧m=a.length - k) a.length ?_ ?_
 ·simp only [push_cast,simprocAttr]
  exact ⟨0,by simp,by omega,by simp,by omega⟩
 rintro m vs bs ⟨k,rfl,rfl,hk,hb,rfl⟩
 simp only [push_cast,simprocAttr]
 apply vc_run 1000 (stop:=false) rfl;simp only [push_cast,simprocAttr]
 refine ⟨fun hlt=>?_,fun hge=>?_⟩
 ·have hlt:k < a.length:=Int.ofNat_lt.1 (of_decide_eq_true hlt)
  simp only [gd_nat]
  refine ⟨by omega,by omega,fun hne=>?_,fun heq=>⟨by constructor<;>omega,_,by omega,k+1,rfl,by omega,below_step hb (eqB_not heq),rfl⟩⟩
  rw [eqB_ne];intro e;subst e;exact eqB_yes hne rfl
 ·have hge:k=a.length:=by have:=of_decide_eq_false hge;omega
  subst hge
  rw [eqB_of (list_eq attrD h hb)])
noncomputable def e_sameAttrs2:Env:=mk [] [(6,[],[(true,[0,1,2,3,4,5,6,7,8],[])])] [] [] none
@[push_cast] theorem e_sameAttrs2_e:e_sameAttrs2.inl=inlF []∧e_sameAttrs2.fnd=fndF none∧e_sameAttrs2.gh=ghOf []∧e_sameAttrs2.dr=drOf [(6,[],[(true,[0,1,2,3,4,5,6,7,8],[])])]∧e_sameAttrs2.td=td∧e_sameAttrs2.eqt=eqt∧e_sameAttrs2.cal=calOf []:=⟨rfl,rfl,rfl,rfl,rfl,rfl,rfl⟩
theorem c_sameAttrs2:CRow P0 ety0 69 sp_sameAttrs:=CRow.of (E:=e_sameAttrs2) (mkOk (.nil)) func69 rfl rfl rfl (by
 intro args p r outs h hq
 simp only [sp_sameAttrs] at h;split at h<;>cases h
 rename_i a b
 have hl:=hq _ rfl
 refine Body.intro (rs:=[.tmp 4]) rfl rfl rfl ?_
 apply vc_run 1000 (stop:=false) rfl;simp only [push_cast,simprocAttr]
 refine ⟨fun h=>?_,fun h=>?_⟩
 ·rw [eqB_ne];intro e;subst e;simp at h
 have h:a.length=b.length:=by simp at h;omega
 refine Run.loop [5] [0,1] [] rfl (fun m vs bs=>∃ k:Nat,vs=[.int .i64 k]∧bs=[]∧k≤a.length∧(∀ j < k,a.getD j attrD=b.getD j attrD)∧m=a.length - k) a.length ?_ ?_
 ·simp only [push_cast,simprocAttr]
  exact ⟨0,by simp,by omega,by simp,by omega⟩
 rintro m vs bs ⟨k,rfl,rfl,hk,hb,rfl⟩
 simp only [push_cast,simprocAttr]
 apply vc_run 1000 (stop:=false) rfl;simp only [push_cast,simprocAttr]
 refine ⟨fun hlt=>?_,fun hge=>?_⟩
 ·have hlt:k < a.length:=Int.ofNat_lt.1 (of_decide_eq_true hlt)
  simp only [gd_nat]
  refine ⟨by omega,by omega,fun hne=>?_,fun heq=>⟨by constructor<;>omega,_,by omega,k+1,rfl,by omega,below_step hb (eqB_not heq),rfl⟩⟩
  rw [eqB_ne];intro e;subst e;exact eqB_yes hne rfl
 ·have hge:k=a.length:=by have:=of_decide_eq_false hge;omega
  subst hge
  rw [eqB_of (list_eq attrD h hb)])
theorem eqB_iff {α:Type} {a b:α}:eqB a b=true↔a=b:=⟨eqB_true,eqB_of⟩
noncomputable def sp_sameNd (z:Nat):Spec:=⟨[.st .node,.st .node],[.rd,.rd],true,fun
 | [.agg [.int .i64 k,.int .i64 s,.str m,.str t,.dat ⟨.attr,a⟩,.dat ⟨.node,ks⟩],.agg [.int .i64 k2,.int .i64 s2,.str m2,.str t2,.dat ⟨.attr,a2⟩,.dat ⟨.node,ks2⟩]]=>some (some (szNds ks < z∧szNd (.mk k s m t a ks)≤1048576),.bool (eqB (Node.mk k s m t a ks) (.mk k2 s2 m2 t2 a2 ks2)),[])
 | _=>none⟩
@[push_cast] theorem sp_sameNd_s (z:Nat):(sp_sameNd z).ps=[.st .node,.st .node]∧(sp_sameNd z).modes=[.rd,.rd]∧(sp_sameNd z).pure=true:=⟨rfl,rfl,rfl⟩
@[push_cast] theorem sp_sameNd_run (z:Nat) (k s k2 s2:Int) (m t m2 t2:Str) (a a2:List Attr) (ks ks2:List Node):(sp_sameNd z).run [.agg [.int .i64 k,.int .i64 s,.str m,.str t,.dat ⟨.attr,a⟩,.dat ⟨.node,ks⟩],.agg [.int .i64 k2,.int .i64 s2,.str m2,.str t2,.dat ⟨.attr,a2⟩,.dat ⟨.node,ks2⟩]]=some (some (szNds ks < z∧szNd (.mk k s m t a ks)≤1048576),.bool (eqB (Node.mk k s m t a ks) (.mk k2 s2 m2 t2 a2 ks2)),[]):=rfl
noncomputable def sp_alike (z:Nat):Spec:=⟨[.sl .node,.sl .node],[.rd,.rd],true,fun
 | [.dat ⟨.node,a⟩,.dat ⟨.node,b⟩]=>some (some (szNds a < z∧szL szNd a≤1048576),.bool (eqB a b),[])
 | _=>none⟩
@[push_cast] theorem sp_alike_s (z:Nat):(sp_alike z).ps=[.sl .node,.sl .node]∧(sp_alike z).modes=[.rd,.rd]∧(sp_alike z).pure=true:=⟨rfl,rfl,rfl⟩
@[push_cast] theorem sp_alike_run (z:Nat) (a b:List Node):(sp_alike z).run [.dat ⟨.node,a⟩,.dat ⟨.node,b⟩]=some (some (szNds a < z∧szL szNd a≤1048576),.bool (eqB a b),[]):=rfl
noncomputable def sp_eqFnNd (z:Nat):Spec:=⟨[.sl .node,.sl .node,.sc],[.rd,.rd,.rd],true,fun
 | [.dat ⟨.node,a⟩,.dat ⟨.node,b⟩,.fn 139 [] []]=>some (some (szNds a < z∧szL szNd a≤1048576),.bool (eqB a b),[])
 | _=>none⟩
@[push_cast] theorem sp_eqFnNd_s (z:Nat):(sp_eqFnNd z).ps=[.sl .node,.sl .node,.sc]∧(sp_eqFnNd z).modes=[.rd,.rd,.rd]∧(sp_eqFnNd z).pure=true:=⟨rfl,rfl,rfl⟩
@[push_cast] theorem sp_eqFnNd_run (z:Nat) (a b:List Node):(sp_eqFnNd z).run [.dat ⟨.node,a⟩,.dat ⟨.node,b⟩,.fn 139 [] []]=some (some (szNds a < z∧szL szNd a≤1048576),.bool (eqB a b),[]):=rfl
noncomputable def e_isSameNd (z:Nat):Env:=mk [(206,sp_sameAttrs),(76,(sp_alike z))] [] [] [] none
@[push_cast] theorem e_isSameNd_e (z:Nat):(e_isSameNd z).inl=inlF []∧(e_isSameNd z).fnd=fndF none∧(e_isSameNd z).gh=ghOf []∧(e_isSameNd z).dr=drOf []∧(e_isSameNd z).td=td∧(e_isSameNd z).eqt=eqt∧(e_isSameNd z).cal=calOf [(206,sp_sameAttrs),(76,(sp_alike z))]:=⟨rfl,rfl,rfl,rfl,rfl,rfl,rfl⟩
theorem c_isSameNd (z:Nat) (h_alike:CRow P0 ety0 76 (sp_alike z)):CRow P0 ety0 139 (sp_sameNd z):=CRow.of (E:=(e_isSameNd z)) (mkOk (.cons c_sameAttrs (.cons h_alike (.nil)))) func139 rfl rfl rfl (by
 intro args p r outs h hq
 simp only [sp_sameNd] at h;split at h<;>cases h
 rename_i k s m t a ks k2 s2 m2 t2 a2 ks2
 obtain ⟨hn,hz⟩:=hq _ rfl
 rw [szNd_mk] at hz
 refine Body.intro (rs:=[.tmp 4]) rfl rfl rfl ?_
 apply vc_run 1000 (stop:=false) rfl;simp only [push_cast,simprocAttr]
 have ha:=szL_len szAt a
 refine ⟨fun _=>by omega,fun _=>⟨hn,by omega⟩,?_⟩
 refine congrArg AV.bool ?_
 rw [Bool.eq_iff_iff,eqB_iff]
 simp only [Bool.cond_false_right,Bool.and_eq_true,decide_eq_true_eq,eqB_iff,Node.mk.injEq,and_assoc])
noncomputable def e_areAlike_ (z:Nat):Env:=mk [(138,(sp_eqFnNd z))] [] [] [] none
@[push_cast] theorem e_areAlike__e (z:Nat):(e_areAlike_ z).inl=inlF []∧(e_areAlike_ z).fnd=fndF none∧(e_areAlike_ z).gh=ghOf []∧(e_areAlike_ z).dr=drOf []∧(e_areAlike_ z).td=td∧(e_areAlike_ z).eqt=eqt∧(e_areAlike_ z).cal=calOf [(138,(sp_eqFnNd z))]:=⟨rfl,rfl,rfl,rfl,rfl,rfl,rfl⟩
theorem c_areAlike_ (z:Nat) (h_eqFnNd:CRow P0 ety0 138 (sp_eqFnNd z)):CRow P0 ety0 76 (sp_alike z):=CRow.of (E:=(e_areAlike_ z)) (mkOk (.cons h_eqFnNd (.nil))) func76 rfl rfl rfl (by
 intro args p r outs h hq
 simp only [sp_alike] at h;split at h<;>cases h
 rename_i a b
 obtain ⟨hn,hz⟩:=hq _ rfl
 refine Body.intro (rs:=[.tmp 4]) rfl rfl rfl ?_
 apply vc_run 1000 (stop:=false) rfl;simp only [push_cast,simprocAttr]
 exact ⟨hn,hz⟩)
noncomputable def e_eqFnNode (z:Nat):Env:=mk [(139,(sp_sameNd z))] [] [] [] none
@[push_cast] theorem e_eqFnNode_e (z:Nat):(e_eqFnNode z).inl=inlF []∧(e_eqFnNode z).fnd=fndF none∧(e_eqFnNode z).gh=ghOf []∧(e_eqFnNode z).dr=drOf []∧(e_eqFnNode z).td=td∧(e_eqFnNode z).eqt=eqt∧(e_eqFnNode z).cal=calOf [(139,(sp_sameNd z))]:=⟨rfl,rfl,rfl,rfl,rfl,rfl,rfl⟩
theorem c_eqFnNode (z:Nat) (h_sameNd:CRow P0 ety0 139 (sp_sameNd z)):CRow P0 ety0 138 (sp_eqFnNd (z+1)):=CRow.of (E:=(e_eqFnNode z)) (mkOk (.cons h_sameNd (.nil))) func138 rfl rfl rfl (by
 intro args p r outs h hq
 simp only [sp_eqFnNd] at h;split at h<;>cases h
 rename_i a b
 obtain ⟨hn,hz⟩:=hq _ rfl
 refine Body.intro (rs:=[.tmp 6]) rfl rfl rfl ?_
 apply vc_run 1000 (stop:=false) rfl;simp only [push_cast,simprocAttr]
 have hl:=szL_len szNd a
 refine ⟨fun h=>?_,fun h=>?_⟩
 ·rw [eqB_ne];intro e;subst e;simp at h
 have h:a.length=b.length:=by simp at h;omega
 refine Run.loop [17] [0,1,2,15,16] [] rfl (fun m vs bs=>∃ k:Nat,vs=[.int .i64 k]∧bs=[]∧k≤a.length∧(∀ j < k,a.getD j nodeD=b.getD j nodeD)∧m=a.length - k) a.length ?_ ?_
 ·simp only [push_cast,simprocAttr]
  exact ⟨0,by simp,by omega,by simp,by omega⟩
 rintro m vs bs ⟨k,rfl,rfl,hk,hb,rfl⟩
 simp only [push_cast,simprocAttr]
 apply vc_run 1000 (stop:=false) rfl;simp only [push_cast,simprocAttr]
 refine ⟨fun hlt=>?_,fun hge=>?_⟩
 ·have hlt:k < a.length:=Int.ofNat_lt.1 (of_decide_eq_true hlt)
  have hel:=szL_at szNd nodeD hlt
  simp only [gd_nat]
  refine ⟨by omega,by omega,⟨kid_lt hn hlt,by omega⟩,fun hne=>?_,fun heq=>⟨by constructor<;>omega,_,by omega,k+1,rfl,by omega,below_step hb (eqB_not heq),rfl⟩⟩
  rw [eqB_ne];intro e;subst e;exact eqB_yes hne rfl
 ·have hge:k=a.length:=by have:=of_decide_eq_false hge;omega
  subst hge
  rw [eqB_of (list_eq nodeD h hb)])
noncomputable def sp_areAlike:Spec:=⟨[.sl .node,.sl .node],[.rd,.rd],true,fun
 | [.dat ⟨.node,a⟩,.dat ⟨.node,b⟩]=>some (some (szL szNd a≤1048576),.bool (eqB a b),[])
 | _=>none⟩
@[push_cast] theorem sp_areAlike_s:sp_areAlike.ps=[.sl .node,.sl .node]∧sp_areAlike.modes=[.rd,.rd]∧sp_areAlike.pure=true:=⟨rfl,rfl,rfl⟩
@[push_cast] theorem sp_areAlike_run (a b:List Node):sp_areAlike.run [.dat ⟨.node,a⟩,.dat ⟨.node,b⟩]=some (some (szL szNd a≤1048576),.bool (eqB a b),[]):=rfl
theorem r_eqFnNd:∀ z,CRow P0 ety0 138 (sp_eqFnNd z)
 | 0=>.absurd (fun args p r outs h hq=>by
   simp only [sp_eqFnNd] at h;split at h<;>cases h
   exact absurd (hq _ rfl).1 (Nat.not_lt_zero _)) (ent_of func138 rfl rfl)
 | z+1=>c_eqFnNode z (c_isSameNd z (c_areAlike_ z (r_eqFnNd z)))
theorem c_areAlike:CRow P0 ety0 76 sp_areAlike:=.all (spn:=sp_alike) (fun _=>rfl) (fun z=>c_areAlike_ z (r_eqFnNd z)) (fun args p r outs h hq=>by
 simp only [sp_areAlike] at h;split at h<;>cases h
 rename_i a b
 exact ⟨szNds a+1,_,rfl,fun q hq'=>by cases hq';exact ⟨Nat.lt_succ_self _,hq _ rfl⟩⟩)
theorem nd_ne (x y:Node):(bif bif bif bif bif !decide (x.kind=y.kind) then true else !decide (x.space=y.space) then true else !decide (x.name=y.name) then true else !decide (x.text=y.text) then true else !eqB x.attrs y.attrs then true else !eqB x.kids y.kids)=!eqB x y:=by
 have e:eqB x y=(decide (x.kind=y.kind) && decide (x.space=y.space) && decide (x.name=y.name) && decide (x.text=y.text) && eqB x.attrs y.attrs && eqB x.kids y.kids):=by
  rw [Bool.eq_iff_iff,eqB_iff]
  cases x;cases y
  simp only [Bool.and_eq_true,decide_eq_true_eq,eqB_iff,and_assoc]
  simp only [Node.mk.injEq,Node.kind,Node.space,Node.name,Node.text,Node.attrs,Node.kids]
 rw [e]
 generalize decide (x.kind=y.kind)=b1;generalize decide (x.space=y.space)=b2;generalize decide (x.name=y.name)=b3;generalize decide (x.text=y.text)=b4;generalize eqB x.attrs y.attrs=b5;generalize eqB x.kids y.kids=b6
 cases b1<;>cases b2<;>cases b3<;>cases b4<;>cases b5<;>cases b6<;>rfl
noncomputable def sp_alike2 (z:Nat):Spec:=⟨[.sl .node,.sl .node],[.rd,.rd],true,fun
 | [.dat ⟨.node,a⟩,.dat ⟨.node,b⟩]=>some (some (szNds a < z∧szL szNd a≤1048576),.bool (eqB a b),[])
 | _=>none⟩
@[push_cast] theorem sp_alike2_s (z:Nat):(sp_alike2 z).ps=[.sl .node,.sl .node]∧(sp_alike2 z).modes=[.rd,.rd]∧(sp_alike2 z).pure=true:=⟨rfl,rfl,rfl⟩
@[push_cast] theorem sp_alike2_run (z:Nat) (a b:List Node):(sp_alike2 z).run [.dat ⟨.node,a⟩,.dat ⟨.node,b⟩]=some (some (szNds a < z∧szL szNd a≤1048576),.bool (eqB a b),[]):=rfl
noncomputable def e_l03Same_ (z:Nat):Env:=mk [(69,sp_sameAttrs),(31,(sp_alike2 z))] [] [] [] none
@[push_cast] theorem e_l03Same__e (z:Nat):(e_l03Same_ z).inl=inlF []∧(e_l03Same_ z).fnd=fndF none∧(e_l03Same_ z).gh=ghOf []∧(e_l03Same_ z).dr=drOf []∧(e_l03Same_ z).td=td∧(e_l03Same_ z).eqt=eqt∧(e_l03Same_ z).cal=calOf [(69,sp_sameAttrs),(31,(sp_alike2 z))]:=⟨rfl,rfl,rfl,rfl,rfl,rfl,rfl⟩
theorem c_l03Same_ (z:Nat) (h_alike2:CRow P0 ety0 31 (sp_alike2 z)):CRow P0 ety0 31 (sp_alike2 (z+1)):=CRow.of (E:=(e_l03Same_ z)) (mkOk (.cons c_sameAttrs2 (.cons h_alike2 (.nil)))) func31 rfl rfl rfl (by
 intro args p r outs h hq
 simp only [sp_alike2] at h;split at h<;>cases h
 rename_i a b
 obtain ⟨hn,hz⟩:=hq _ rfl
 have hl:=szL_len szNd a
 refine Body.intro (rs:=[.tmp 4]) rfl rfl rfl ?_
 apply vc_run 1000 (stop:=false) rfl;simp only [push_cast,simprocAttr]
 refine ⟨fun h=>?_,fun h=>?_⟩
 ·rw [eqB_ne];intro e;subst e;simp at h
 have h:a.length=b.length:=by simp at h;omega
 refine Run.loop [5] [0,1] [] rfl (fun m vs bs=>∃ k:Nat,vs=[.int .i64 k]∧bs=[]∧k≤a.length∧(∀ j < k,a.getD j nodeD=b.getD j nodeD)∧m=a.length - k) a.length ?_ ?_
 ·simp only [push_cast,simprocAttr]
  exact ⟨0,by simp,by omega,by simp,by omega⟩
 rintro m vs bs ⟨k,rfl,rfl,hk,hb,rfl⟩
 simp only [push_cast,simprocAttr]
 apply vc_run 1000 (stop:=false) rfl;simp only [push_cast,simprocAttr]
 simp only [nd_ne]
 refine ⟨fun hlt=>?_,fun hge=>?_⟩
 ·have hlt:k < a.length:=Int.ofNat_lt.1 (of_decide_eq_true hlt)
  have hel:=szL_at szNd nodeD hlt
  have hkd:=szNd_eq (a.getD k nodeD)
  have hka:=szL_len szAt (a.getD k nodeD).attrs
  simp only [gd_nat]
  refine ⟨by omega,by omega,fun _=>by omega,fun _=>⟨kid_lt hn hlt,by omega⟩,fun hne=>?_,fun heq=>⟨by constructor<;>omega,_,by omega,k+1,rfl,by omega,below_step hb (eqB_not heq),rfl⟩⟩
  rw [eqB_ne];intro e;subst e;exact eqB_yes hne rfl
 ·have hge:k=a.length:=by have:=of_decide_eq_false hge;omega
  subst hge
  rw [eqB_of (list_eq nodeD h hb)])
theorem r_alike2:∀ z,CRow P0 ety0 31 (sp_alike2 z)
 | 0=>.absurd (fun args p r outs h hq=>by
   simp only [sp_alike2] at h;split at h<;>cases h
   exact absurd (hq _ rfl).1 (Nat.not_lt_zero _)) (ent_of func31 rfl rfl)
 | z+1=>c_l03Same_ z (r_alike2 z)
theorem c_l03Same:CRow P0 ety0 31 sp_areAlike:=.all (spn:=sp_alike2) (fun _=>rfl) r_alike2 (fun args p r outs h hq=>by
 simp only [sp_areAlike] at h;split at h<;>cases h
 rename_i a b
 exact ⟨szNds a+1,_,rfl,fun q hq'=>by cases hq';exact ⟨Nat.lt_succ_self _,hq _ rfl⟩⟩)
end Go.Ab
