import Derived.Test.YtjnachnjfdgpgaaGreatDoorFnD
set_option linter.all false
set_option maxRecDepth 20000
set_option maxHeartbeats 1000000
namespace Go.Ab
open Go Go.Proofs.Tryz
theorem CRow.absurd {P:Program} {ety:K→TypeId} {f:FuncId} {sp:Spec} (h:∀ args p r outs,sp.run args=some (p,r,outs)→(∀ q,p=some q→q)→False) (he:∀ args w,(callFunc f args).run P w=.ok (.enter f args) w):CRow P ety f sp :=
 ⟨fun args p r outs hr hq=>(h args p r outs hr hq).elim,he⟩
theorem CRow.all {P:Program} {ety:K→TypeId} {f:FuncId} {sp:Spec} {spn:Nat→Spec} (hm:∀ n,(spn n).modes=sp.modes) (h:∀ n,CRow P ety f (spn n))
  (hr:∀ args p r outs,sp.run args=some (p,r,outs)→(∀ q,p=some q→q)→∃ n p',(spn n).run args=some (p',r,outs)∧∀ q,p'=some q→q):CRow P ety f sp :=
 ⟨fun args p r outs hrun hq w R vs F=>by
  obtain ⟨n,p',h1,h2⟩:=hr args p r outs hrun hq
  have:=(h n).ok args p' r outs h1 h2 w R vs F
  rw [hm n] at this
  exact this,(h 0).ent⟩
def szAt (a:Attr):Nat:=a.name.length+a.value.length
def fitAt (a:Attr):Prop:=fitStr a.name∧fitStr a.value
@[push_cast] theorem eta_attr (a:Attr):(⟨a.name,a.value⟩:Attr)=a:=rfl
@[push_cast] theorem eta_node (x:Node):Node.mk x.kind x.space x.name x.text x.attrs x.kids=x:=by cases x;rfl
mutual
def szNd:Node→Nat
 | .mk _ _ n t a ks=>n.length+t.length+szL szAt a+szNds ks
def szNds:List Node→Nat
 | []=>0
 | x :: r=>1+szNd x+szNds r
end
theorem szNds_eq (l:List Node):szNds l=szL szNd l:=by
 induction l with
 | nil=>simp [szNds,szL,sumL]
 | cons x r ih =>
  have e:sumL szNd (x :: r)=szNd x+sumL szNd r:=by simp [sumL]
  rw [szNds,ih,szL,szL,e,List.length_cons];omega
theorem szNd_mk (k s:Int) (m t:Str) (a:List Attr) (ks:List Node):szNd (.mk k s m t a ks)=m.length+t.length+szL szAt a+szL szNd ks:=by rw [szNd,szNds_eq]
theorem szNd_eq (x:Node):szNd x=x.name.length+x.text.length+szL szAt x.attrs+szL szNd x.kids:=by cases x;rw [szNd_mk];rfl
mutual
def fitNd:Node→Prop
 | .mk _ _ n t a ks=>fitStr n∧fitStr t∧fitL fitAt a∧ks.length≤mxN∧fitNds ks
def fitNds:List Node→Prop
 | []=>True
 | x :: r=>fitNd x∧fitNds r
end
theorem fitNds_iff (l:List Node):fitNds l↔∀ x∈l,fitNd x:=by
 induction l with
 | nil=>simp [fitNds]
 | cons x r ih=>rw [fitNds,ih];simp
theorem fitNd_mk {k s:Int} {m t:Str} {a:List Attr} {ks:List Node} (h:fitNd (.mk k s m t a ks)):fitStr m∧fitStr t∧fitL fitAt a∧fitL fitNd ks:=by
 rw [fitNd,fitNds_iff] at h;exact ⟨h.1,h.2.1,h.2.2.1,h.2.2.2⟩
theorem kid_lt {l:List Node} {n k:Nat} (h:szNds l < n+1) (hk:k < l.length):szNds (l.getD k nodeD).kids < n:=by
 have h1:=szL_at szNd nodeD hk
 have h2:=szNd_eq (l.getD k nodeD)
 have h3:l.length+sumL szNd l < n+1:=by rw [szNds_eq] at h;exact h
 have h4:szNd (l.getD k nodeD)≤sumL szNd l:=sumL_mem szNd (by
  have e:l.getD k nodeD=l[k]:=by simp [List.getD,hk]
  rw [e];exact List.getElem_mem hk)
 rw [szNds_eq];omega
noncomputable def sp_szAttr:Spec:=⟨[.st .attr,.sc],[.rd,.rd],true,fun
 | [.agg [.str a,.str b],.int .i64 n]=>some (some (0≤n∧n≤1048576∧fitAt ⟨a,b⟩),.int .i64 (szR (szAt ⟨a,b⟩) n),[])
 | _=>none⟩
@[push_cast] theorem sp_szAttr_s:sp_szAttr.ps=[.st .attr,.sc]∧sp_szAttr.modes=[.rd,.rd]∧sp_szAttr.pure=true:=⟨rfl,rfl,rfl⟩
@[push_cast] theorem sp_szAttr_run (a b:Str) (n:Int):sp_szAttr.run [.agg [.str a,.str b],.int .i64 n]=some (some (0≤n∧n≤1048576∧fitAt ⟨a,b⟩),.int .i64 (szR (szAt ⟨a,b⟩) n),[]):=rfl
noncomputable def e_szAttr:Env:=mk [] [] [] [] none
@[push_cast] theorem e_szAttr_e:MkE e_szAttr [] [] [] [] none:=⟨rfl,rfl,rfl,rfl,rfl,rfl,rfl⟩
theorem c_szAttr:CRow P0 ety0 140 sp_szAttr:=CRow.of (E:=e_szAttr) (mkOk (.nil)) func140 rfl rfl rfl (by
 intro args p r outs h hq
 simp only [sp_szAttr] at h;split at h<;>cases h
 rename_i a b n
 obtain ⟨h0,h1,ha,hb⟩:=hq _ rfl
 have ha:a.length≤9223372036854775807:=ha
 have hb:b.length≤9223372036854775807:=hb
 refine Body.intro (rs:=[.tmp 4]) rfl rfl rfl ?_
 apply vc_run 1000 (stop:=false) rfl;simp only [push_cast,simprocAttr]
 refine ⟨by constructor<;>omega,fun h=>?_,fun h=>?_⟩
 ·have:=of_decide_eq_true h;rw [← szR_m1];simp only [szAt];omega
 ·have h:=of_decide_eq_false h
  refine ⟨by constructor<;>omega,fun h2=>?_,fun h2=>?_⟩
  ·have:=of_decide_eq_true h2;rw [← szR_m1];simp only [szAt];omega
  ·have:=of_decide_eq_false h2
   have e:szAt ⟨a,b⟩=a.length+b.length:=rfl
   rw [e,szR,if_neg (by omega)];congr 1;omega)
noncomputable def sp_szAttrS:Spec:=⟨[.sl .attr,.sc],[.rd,.rd],true,fun
 | [.dat ⟨.attr,l⟩,.int .i64 n]=>some (some (0≤n∧n≤1048576∧fitL fitAt l),.int .i64 (szR (szL szAt l) n),[])
 | _=>none⟩
@[push_cast] theorem sp_szAttrS_s:sp_szAttrS.ps=[.sl .attr,.sc]∧sp_szAttrS.modes=[.rd,.rd]∧sp_szAttrS.pure=true:=⟨rfl,rfl,rfl⟩
@[push_cast] theorem sp_szAttrS_run (l:List Attr) (n:Int):sp_szAttrS.run [.dat ⟨.attr,l⟩,.int .i64 n]=some (some (0≤n∧n≤1048576∧fitL fitAt l),.int .i64 (szR (szL szAt l) n),[]):=rfl
noncomputable def e_szAttrS:Env:=mk [(140,sp_szAttr)] [] [] [] none
@[push_cast] theorem e_szAttrS_e:MkE e_szAttrS [(140,sp_szAttr)] [] [] [] none:=⟨rfl,rfl,rfl,rfl,rfl,rfl,rfl⟩
theorem c_szAttrS:CRow P0 ety0 77 sp_szAttrS:=CRow.of (E:=e_szAttrS) (mkOk (.cons c_szAttr (.nil))) func77 rfl rfl rfl (by
 intro args p r outs h hq
 simp only [sp_szAttrS] at h;split at h<;>cases h
 rename_i l n
 obtain ⟨h0,h1,hl,hx⟩:=hq _ rfl
 have hl':l.length≤9223372036854775807:=hl
 refine Body.intro (rs:=[.tmp 4]) rfl rfl rfl ?_
 apply vc_run 1000 (stop:=false) rfl;simp only [push_cast,simprocAttr]
 refine ⟨by constructor<;>omega,fun h=>?_,fun h=>?_⟩
 ·rw [szL,szR_neg _ h0 (by simpa using h)]
 have h:¬ n - (l.length:Int) < 0:=by simpa using h
 refine Run.loop [1,5] [0] [] rfl (fun m vs bs=>∃ k:Nat,vs=[.int .i64 (n - l.length - sumL szAt (l.take k)),.int .i64 k]∧bs=[]∧k≤l.length∧0≤n - l.length - sumL szAt (l.take k)∧m=l.length - k) l.length ?_ ?_
 ·simp only [push_cast,simprocAttr]
  exact ⟨0,by simp [sumL],by omega,by simp [sumL];omega,by omega⟩
 rintro m vs bs ⟨k,rfl,rfl,hk,hp,rfl⟩
 simp only [push_cast,simprocAttr]
 apply vc_run 1000 (stop:=false) rfl;simp only [push_cast,simprocAttr]
 have hle:=sumL_take_le szAt l k
 refine ⟨fun hlt=>?_,fun hge=>?_⟩
 ·have hlt:k < l.length:=by simpa using hlt
  have hs:=sumL_take szAt l attrD hlt
  have hf:fitAt (l.getD k attrD):=fit_at hx hlt
  have hle1:=sumL_take_le szAt l (k+1)
  simp only [gd_nat]
  generalize hR:szR _ _=R
  have hR':R=szR (szAt (l.getD k attrD)) (n - l.length - sumL szAt (l.take k)):=hR.symm
  refine ⟨by omega,⟨hp,by omega,hf⟩,fun hneg=>?_,fun hpos=>⟨by constructor<;>omega,_,by omega,k+1,?_,by omega,?_,rfl⟩⟩
  ·have hneg:R < 0:=by simpa using hneg
   rw [hR',szR_lt hp] at hneg
   rw [szL,szR,if_pos (by omega)]
  ·have hpos:¬ R < 0:=by simpa using hpos
   rw [hR',szR_lt hp] at hpos
   rw [hR',szR,if_neg hpos,hs];simp;omega
  ·have hpos:¬ R < 0:=by simpa using hpos
   rw [hR',szR_lt hp] at hpos
   omega
 ·have hge:k=l.length:=by simp at hge;omega
  subst hge
  rw [List.take_length] at hp ⊢
  rw [szL,szR,if_neg (by omega)]
  congr 1
  omega)
noncomputable def sp_toAttr:Spec:=⟨[.st .attr],[.rd],true,fun
 | [.agg [.str a,.str b]]=>some (none,.agg [.str a,.str b],[])
 | _=>none⟩
@[push_cast] theorem sp_toAttr_s:sp_toAttr.ps=[.st .attr]∧sp_toAttr.modes=[.rd]∧sp_toAttr.pure=true:=⟨rfl,rfl,rfl⟩
@[push_cast] theorem sp_toAttr_run (a b:Str):sp_toAttr.run [.agg [.str a,.str b]]=some (none,.agg [.str a,.str b],[]):=rfl
noncomputable def e_toAttr:Env:=mk [] [] [] [] none
@[push_cast] theorem e_toAttr_e:MkE e_toAttr [] [] [] [] none:=⟨rfl,rfl,rfl,rfl,rfl,rfl,rfl⟩
theorem c_toAttr:CRow P0 ety0 142 sp_toAttr:=CRow.of (E:=e_toAttr) (mkOk (.nil)) func142 rfl rfl rfl (by
 intro args p r outs h hq
 simp only [sp_toAttr] at h;split at h<;>cases h
 refine Body.intro (rs:=[.cell 2 100]) rfl rfl rfl ?_
 apply vc_run 1000 (stop:=false) rfl;simp only [push_cast,simprocAttr])
noncomputable def sp_toAttrS:Spec:=⟨[.sl .attr],[.rd],false,fun
 | [.dat ⟨.attr,l⟩]=>some (some (szL szAt l≤1048576),.own true ⟨.attr,l⟩,[])
 | _=>none⟩
@[push_cast] theorem sp_toAttrS_s:sp_toAttrS.ps=[.sl .attr]∧sp_toAttrS.modes=[.rd]∧sp_toAttrS.pure=false:=⟨rfl,rfl,rfl⟩
@[push_cast] theorem sp_toAttrS_run (l:List Attr):sp_toAttrS.run [.dat ⟨.attr,l⟩]=some (some (szL szAt l≤1048576),.own true ⟨.attr,l⟩,[]):=rfl
noncomputable def e_toAttrS:Env:=mk [(142,sp_toAttr)] [] [] [] none
@[push_cast] theorem e_toAttrS_e:MkE e_toAttrS [(142,sp_toAttr)] [] [] [] none:=⟨rfl,rfl,rfl,rfl,rfl,rfl,rfl⟩
theorem c_toAttrS:CRow P0 ety0 79 sp_toAttrS:=CRow.of (E:=e_toAttrS) (mkOk (.cons c_toAttr (.nil))) func79 rfl rfl rfl (by
 intro args p r outs h hq
 simp only [sp_toAttrS] at h;split at h<;>cases h
 rename_i l
 have hz:=hq _ rfl
 have hl:l.length≤1048576:=Nat.le_trans (szL_len _ _) hz
 refine Body.intro (rs:=[.tmp 2]) rfl rfl rfl ?_
 apply vc_run 1000 (stop:=false) rfl;simp only [push_cast,simprocAttr]
 refine ⟨by omega,?_⟩
 refine Run.loop [3,4] [0] [] rfl (fun m vs bs=>∃ k:Nat,vs=[.own true ⟨.attr,fillL l attrD k⟩,.int .i64 k]∧bs=[]∧k≤l.length∧m=l.length - k) l.length ?_ ?_
 ·simp only [push_cast,simprocAttr]
  exact ⟨0,by rw [fillL_0];rfl,by omega,by omega⟩
 rintro m vs bs ⟨k,rfl,rfl,hk,rfl⟩
 simp only [push_cast,simprocAttr]
 apply vc_run 1000 (stop:=false) rfl;simp only [push_cast,simprocAttr]
 rw [fillL_len _ _ _ hk]
 refine ⟨fun hlt=>?_,fun hge=>?_⟩
 ·have hlt:k < l.length:=by simpa using hlt
  have hel:szAt (l.getD k attrD)≤1048576:=Nat.le_trans (szL_at _ _ hlt) hz
  simp only [gd_nat,Int.toNat_natCast]
  refine ⟨by omega,by omega,by constructor<;>omega,_,by omega,k+1,?_,by omega,rfl⟩
  rw [← fillL_set _ _ hlt]
  first | rfl | (cases hc:l.getD k attrD;rfl)
 ·have hge:k=l.length:=by simp at hge;omega
  subst hge
  rw [fillL_all])
noncomputable def sp_eqAttr:Spec:=⟨[.st .attr,.st .attr],[.rd,.rd],true,fun
 | [.agg [.str a,.str b],.agg [.str c,.str d]]=>some (none,.bool (eqB (⟨a,b⟩:Attr) ⟨c,d⟩),[])
 | _=>none⟩
@[push_cast] theorem sp_eqAttr_s:sp_eqAttr.ps=[.st .attr,.st .attr]∧sp_eqAttr.modes=[.rd,.rd]∧sp_eqAttr.pure=true:=⟨rfl,rfl,rfl⟩
@[push_cast] theorem sp_eqAttr_run (a b c d:Str):sp_eqAttr.run [.agg [.str a,.str b],.agg [.str c,.str d]]=some (none,.bool (eqB (⟨a,b⟩:Attr) ⟨c,d⟩),[]):=rfl
noncomputable def e_eqAttr:Env:=mk [] [] [] [] none
@[push_cast] theorem e_eqAttr_e:MkE e_eqAttr [] [] [] [] none:=⟨rfl,rfl,rfl,rfl,rfl,rfl,rfl⟩
theorem c_eqAttr:CRow P0 ety0 144 sp_eqAttr:=CRow.of (E:=e_eqAttr) (mkOk (.nil)) func144 rfl rfl rfl (by
 intro args p r outs h hq
 simp only [sp_eqAttr] at h;split at h<;>cases h
 rename_i a b c d
 refine Body.intro (rs:=[.tmp 4]) rfl rfl rfl ?_
 apply vc_run 1000 (stop:=false) rfl;simp only [push_cast,simprocAttr]
 refine ⟨fun h=>?_,fun h1=>⟨fun h=>?_,fun h2=>?_⟩⟩
 ·rw [eqB_ne];intro e;cases e;simp at h
 ·rw [eqB_ne];intro e;cases e;simp at h
 ·simp at h1 h2
  rw [h1,h2,eqB_of rfl])
noncomputable def sp_eqAttrS:Spec:=⟨[.sl .attr,.sl .attr],[.rd,.rd],true,fun
 | [.dat ⟨.attr,a⟩,.dat ⟨.attr,b⟩]=>some (some (szL szAt a≤1048576),.bool (eqB a b),[])
 | _=>none⟩
@[push_cast] theorem sp_eqAttrS_s:sp_eqAttrS.ps=[.sl .attr,.sl .attr]∧sp_eqAttrS.modes=[.rd,.rd]∧sp_eqAttrS.pure=true:=⟨rfl,rfl,rfl⟩
@[push_cast] theorem sp_eqAttrS_run (a b:List Attr):sp_eqAttrS.run [.dat ⟨.attr,a⟩,.dat ⟨.attr,b⟩]=some (some (szL szAt a≤1048576),.bool (eqB a b),[]):=rfl
noncomputable def e_eqAttrS:Env:=mk [(144,sp_eqAttr)] [(6,[],[(true,[0,1,2,3,4,5,6,7,8,9],[])])] [] [] none
@[push_cast] theorem e_eqAttrS_e:MkE e_eqAttrS [(144,sp_eqAttr)] [(6,[],[(true,[0,1,2,3,4,5,6,7,8,9],[])])] [] [] none:=⟨rfl,rfl,rfl,rfl,rfl,rfl,rfl⟩
theorem c_eqAttrS:CRow P0 ety0 81 sp_eqAttrS:=CRow.of (E:=e_eqAttrS) (mkOk (.cons c_eqAttr (.nil))) func81 rfl rfl rfl (by
 intro args p r outs h hq
 simp only [sp_eqAttrS] at h;split at h<;>cases h
 rename_i a b
 have hz:=hq _ rfl
 have hl:a.length≤1048576:=Nat.le_trans (szL_len _ _) hz
 refine Body.intro (rs:=[.tmp 4]) rfl rfl rfl ?_
 apply vc_run 1000 (stop:=false) rfl;simp only [push_cast,simprocAttr]
 refine ⟨fun h=>?_,fun h=>?_⟩
 ·rw [eqB_ne];intro e;subst e;simp at h
 have h:a.length=b.length:=by simp at h;omega
 refine Run.loop [5] [0,1] [] rfl (fun m vs bs=>∃ k:Nat,vs=[.int .i64 k]∧bs=[]∧k≤a.length∧(∀ j < k,a.getD j attrD=b.getD j attrD)∧m=a.length - k) a.length ?_ ?_
 ·simp only [push_cast,simprocAttr]
  exact ⟨0,by simp,by omega,by simp,by omega⟩
 rintro m vs bs ⟨k,rfl,rfl,hk,hb,rfl⟩
 simp only [push_cast,simprocAttr]
 apply vc_run 1000 (stop:=false) rfl;simp only [push_cast,simprocAttr]
 refine ⟨fun hlt=>?_,fun hge=>?_⟩
 ·have hlt:k < a.length:=by simpa using hlt
  have hel:szAt (a.getD k attrD)≤1048576:=Nat.le_trans (szL_at _ _ hlt) hz
  simp only [gd_nat]
  refine ⟨by omega,by omega,fun hne=>?_,fun heq=>⟨by constructor<;>omega,_,by omega,k+1,rfl,by omega,fun j hj=>?_,rfl⟩⟩
  ·rw [eqB_ne];intro e;subst e;first | (simp at hne;done) | exact absurd hne (by simp [eqB_self])
  ·rcases Nat.lt_or_eq_of_le (Nat.le_of_lt_succ hj) with h | rfl
   ·exact hb j h
   ·first | exact eqB_not heq | (simpa using heq;done) | exact eqK (eqB_not heq)
 ·have hge:k=a.length:=by simp at hge;omega
  subst hge
  rw [eqB_of (list_eq attrD h hb)])
noncomputable def sp_szNd (z:Nat):Spec:=⟨[.st .node,.sc],[.rd,.rd],true,fun
 | [.agg [.int .i64 k,.int .i64 s,.str m,.str t,.dat ⟨.attr,a⟩,.dat ⟨.node,ks⟩],.int .i64 n]=>some (some (szNds ks < z∧0≤n∧n≤1048576∧fitNd (.mk k s m t a ks)),.int .i64 (szR (szNd (.mk k s m t a ks)) n),[])
 | _=>none⟩
@[push_cast] theorem sp_szNd_s (z:Nat):(sp_szNd z).ps=[.st .node,.sc]∧(sp_szNd z).modes=[.rd,.rd]∧(sp_szNd z).pure=true:=⟨rfl,rfl,rfl⟩
@[push_cast] theorem sp_szNd_run (z:Nat) (k s:Int) (m t:Str) (a:List Attr) (ks:List Node) (n:Int):(sp_szNd z).run [.agg [.int .i64 k,.int .i64 s,.str m,.str t,.dat ⟨.attr,a⟩,.dat ⟨.node,ks⟩],.int .i64 n]=some (some (szNds ks < z∧0≤n∧n≤1048576∧fitNd (.mk k s m t a ks)),.int .i64 (szR (szNd (.mk k s m t a ks)) n),[]):=rfl
noncomputable def sp_szNds (z:Nat):Spec:=⟨[.sl .node,.sc],[.rd,.rd],true,fun
 | [.dat ⟨.node,l⟩,.int .i64 n]=>some (some (szNds l < z∧0≤n∧n≤1048576∧fitL fitNd l),.int .i64 (szR (szL szNd l) n),[])
 | _=>none⟩
@[push_cast] theorem sp_szNds_s (z:Nat):(sp_szNds z).ps=[.sl .node,.sc]∧(sp_szNds z).modes=[.rd,.rd]∧(sp_szNds z).pure=true:=⟨rfl,rfl,rfl⟩
@[push_cast] theorem sp_szNds_run (z:Nat) (l:List Node) (n:Int):(sp_szNds z).run [.dat ⟨.node,l⟩,.int .i64 n]=some (some (szNds l < z∧0≤n∧n≤1048576∧fitL fitNd l),.int .i64 (szR (szL szNd l) n),[]):=rfl
noncomputable def e_szNode (z:Nat):Env:=mk [(77,sp_szAttrS),(11,(sp_szNds z))] [] [] [] none
@[push_cast] theorem e_szNode_e (z:Nat):MkE (e_szNode z) [(77,sp_szAttrS),(11,(sp_szNds z))] [] [] [] none:=⟨rfl,rfl,rfl,rfl,rfl,rfl,rfl⟩
theorem c_szNode (z:Nat) (h_szNds:CRow P0 ety0 11 (sp_szNds z)):CRow P0 ety0 35 (sp_szNd z):=CRow.of (E:=(e_szNode z)) (mkOk (.cons c_szAttrS (.cons h_szNds (.nil)))) func35 rfl rfl rfl (by
 intro args p r outs h hq
 simp only [sp_szNd] at h;split at h<;>cases h
 rename_i k s m t a ks n
 obtain ⟨hz,h0,h1,hf⟩:=hq _ rfl
 obtain ⟨hm,ht,ha,hk⟩:=fitNd_mk hf
 have hm:m.length≤9223372036854775807:=hm
 have ht:t.length≤9223372036854775807:=ht
 have e:=szNd_mk k s m t a ks
 obtain ⟨c,hc⟩:∃ c,c=szNd (.mk k s m t a ks):=⟨_,rfl⟩
 refine Body.intro (rs:=[.tmp 4]) rfl rfl rfl ?_
 apply vc_run 1000 (stop:=false) rfl;simp only [push_cast,simprocAttr]
 rw [← hc] at e ⊢
 refine ⟨by constructor<;>omega,fun h=>?_,fun h=>⟨?_,fun h2=>?_,fun h2=>⟨⟨?_,?_,ha⟩,fun h3=>?_,fun h3=>?_⟩⟩⟩
 ·have:=of_decide_eq_true h;rw [← szR_m1 (by omega)]
 ·have:=of_decide_eq_false h;constructor<;>omega
 ·have:=of_decide_eq_true h2;rw [← szR_m1 (by omega)]
 ·have:=of_decide_eq_false h2;omega
 ·omega
 ·have h2':=of_decide_eq_false h2;have:=of_decide_eq_true h3;rw [szR_lt (by omega)] at this;rw [← szR_m1 (by omega)]
 ·have h2':=of_decide_eq_false h2
  have h3':=of_decide_eq_false h3
  obtain ⟨s1,s2,s3,s4⟩:=szR_le h3' (by omega)
  rw [s3]
  refine ⟨⟨hz,by omega,by omega,hk⟩,fun h4=>?_,fun h4=>?_⟩
  ·have:=of_decide_eq_true h4;rw [szR_lt (by omega)] at this;rw [← szR_m1 (by omega)]
  ·have h4':=of_decide_eq_false h4
   obtain ⟨u1,u2,u3,u4⟩:=szR_le h4' (by omega)
   rw [u3,szR,if_neg (by omega)];congr 1;omega)
noncomputable def e_szNodeSr (z:Nat):Env:=mk [(35,(sp_szNd z))] [] [] [] none
@[push_cast] theorem e_szNodeSr_e (z:Nat):MkE (e_szNodeSr z) [(35,(sp_szNd z))] [] [] [] none:=⟨rfl,rfl,rfl,rfl,rfl,rfl,rfl⟩
theorem c_szNodeSr (z:Nat) (h_szNd:CRow P0 ety0 35 (sp_szNd z)):CRow P0 ety0 11 (sp_szNds (z+1)):=CRow.of (E:=(e_szNodeSr z)) (mkOk (.cons h_szNd (.nil))) func11 rfl rfl rfl (by
 intro args p r outs h hq
 simp only [sp_szNds] at h;split at h<;>cases h
 rename_i l n
 obtain ⟨hn,h0,h1,hl,hx⟩:=hq _ rfl
 have hl':l.length≤9223372036854775807:=hl
 refine Body.intro (rs:=[.tmp 4]) rfl rfl rfl ?_
 apply vc_run 1000 (stop:=false) rfl;simp only [push_cast,simprocAttr]
 refine ⟨by constructor<;>omega,fun h=>?_,fun h=>?_⟩
 ·rw [szL,szR_neg _ h0 (by simpa using h)]
 have h:¬ n - (l.length:Int) < 0:=by simpa using h
 refine Run.loop [1,5] [0] [] rfl (fun m vs bs=>∃ k:Nat,vs=[.int .i64 (n - l.length - sumL szNd (l.take k)),.int .i64 k]∧bs=[]∧k≤l.length∧0≤n - l.length - sumL szNd (l.take k)∧m=l.length - k) l.length ?_ ?_
 ·simp only [push_cast,simprocAttr]
  exact ⟨0,by simp [sumL],by omega,by simp [sumL];omega,by omega⟩
 rintro m vs bs ⟨k,rfl,rfl,hk,hp,rfl⟩
 simp only [push_cast,simprocAttr]
 apply vc_run 1000 (stop:=false) rfl;simp only [push_cast,simprocAttr]
 have hle:=sumL_take_le szNd l k
 refine ⟨fun hlt=>?_,fun hge=>?_⟩
 ·have hlt:k < l.length:=by simpa using hlt
  have hs:=sumL_take szNd l nodeD hlt
  have hf:fitNd (l.getD k nodeD):=fit_at hx hlt
  have hle1:=sumL_take_le szNd l (k+1)
  simp only [gd_nat]
  generalize hR:szR _ _=R
  have hR':R=szR (szNd (l.getD k nodeD)) (n - l.length - sumL szNd (l.take k)):=hR.symm
  refine ⟨by omega,⟨kid_lt hn hlt,hp,by omega,hf⟩,fun hneg=>?_,fun hpos=>⟨by constructor<;>omega,_,by omega,k+1,?_,by omega,?_,rfl⟩⟩
  ·have hneg:R < 0:=by simpa using hneg
   rw [hR',szR_lt hp] at hneg
   rw [szL,szR,if_pos (by omega)]
  ·have hpos:¬ R < 0:=by simpa using hpos
   rw [hR',szR_lt hp] at hpos
   rw [hR',szR,if_neg hpos,hs];simp;omega
  ·have hpos:¬ R < 0:=by simpa using hpos
   rw [hR',szR_lt hp] at hpos
   omega
 ·have hge:k=l.length:=by simp at hge;omega
  subst hge
  rw [List.take_length] at hp ⊢
  rw [szL,szR,if_neg (by omega)]
  congr 1
  omega)
noncomputable def sp_szNodeS:Spec:=⟨[.sl .node,.sc],[.rd,.rd],true,fun
 | [.dat ⟨.node,l⟩,.int .i64 n]=>some (some (0≤n∧n≤1048576∧fitL fitNd l),.int .i64 (szR (szL szNd l) n),[])
 | _=>none⟩
@[push_cast] theorem sp_szNodeS_s:sp_szNodeS.ps=[.sl .node,.sc]∧sp_szNodeS.modes=[.rd,.rd]∧sp_szNodeS.pure=true:=⟨rfl,rfl,rfl⟩
@[push_cast] theorem sp_szNodeS_run (l:List Node) (n:Int):sp_szNodeS.run [.dat ⟨.node,l⟩,.int .i64 n]=some (some (0≤n∧n≤1048576∧fitL fitNd l),.int .i64 (szR (szL szNd l) n),[]):=rfl
theorem r_szNds:∀ z,CRow P0 ety0 11 (sp_szNds z)
 | 0=>.absurd (fun args p r outs h hq=>by
   simp only [sp_szNds] at h;split at h<;>cases h
   exact absurd (hq _ rfl).1 (Nat.not_lt_zero _)) (ent_of func11 rfl rfl)
 | z+1=>c_szNodeSr z (c_szNode z (r_szNds z))
theorem c_szNodeS:CRow P0 ety0 11 sp_szNodeS:=.all (spn:=sp_szNds) (fun _=>rfl) r_szNds (fun args p r outs h hq=>by
 simp only [sp_szNodeS] at h;split at h<;>cases h
 rename_i l n
 exact ⟨szNds l+1,_,rfl,fun q hq'=>by cases hq';exact ⟨Nat.lt_succ_self _,hq _ rfl⟩⟩)
noncomputable def sp_toNd (z:Nat):Spec:=⟨[.st .node],[.rd],false,fun
 | [.agg [.int .i64 k,.int .i64 s,.str m,.str t,.dat ⟨.attr,a⟩,.dat ⟨.node,ks⟩]]=>some (some (szNds ks < z∧szNd (.mk k s m t a ks)≤1048576),.agg [.int .i64 k,.int .i64 s,.str m,.str t,.own true ⟨.attr,a⟩,.own true ⟨.node,ks⟩],[])
 | _=>none⟩
@[push_cast] theorem sp_toNd_s (z:Nat):(sp_toNd z).ps=[.st .node]∧(sp_toNd z).modes=[.rd]∧(sp_toNd z).pure=false:=⟨rfl,rfl,rfl⟩
@[push_cast] theorem sp_toNd_run (z:Nat) (k s:Int) (m t:Str) (a:List Attr) (ks:List Node):(sp_toNd z).run [.agg [.int .i64 k,.int .i64 s,.str m,.str t,.dat ⟨.attr,a⟩,.dat ⟨.node,ks⟩]]=some (some (szNds ks < z∧szNd (.mk k s m t a ks)≤1048576),.agg [.int .i64 k,.int .i64 s,.str m,.str t,.own true ⟨.attr,a⟩,.own true ⟨.node,ks⟩],[]):=rfl
noncomputable def sp_toNds (z:Nat):Spec:=⟨[.sl .node],[.rd],false,fun
 | [.dat ⟨.node,l⟩]=>some (some (szNds l < z∧szL szNd l≤1048576),.own true ⟨.node,l⟩,[])
 | _=>none⟩
@[push_cast] theorem sp_toNds_s (z:Nat):(sp_toNds z).ps=[.sl .node]∧(sp_toNds z).modes=[.rd]∧(sp_toNds z).pure=false:=⟨rfl,rfl,rfl⟩
@[push_cast] theorem sp_toNds_run (z:Nat) (l:List Node):(sp_toNds z).run [.dat ⟨.node,l⟩]=some (some (szNds l < z∧szL szNd l≤1048576),.own true ⟨.node,l⟩,[]):=rfl
noncomputable def e_toNode (z:Nat):Env:=mk [(79,sp_toAttrS),(13,(sp_toNds z))] [] [] [] none
@[push_cast] theorem e_toNode_e (z:Nat):MkE (e_toNode z) [(79,sp_toAttrS),(13,(sp_toNds z))] [] [] [] none:=⟨rfl,rfl,rfl,rfl,rfl,rfl,rfl⟩
theorem c_toNode (z:Nat) (h_toNds:CRow P0 ety0 13 (sp_toNds z)):CRow P0 ety0 37 (sp_toNd z):=CRow.of (E:=(e_toNode z)) (mkOk (.cons c_toAttrS (.cons h_toNds (.nil)))) func37 rfl rfl rfl (by
 intro args p r outs h hq
 simp only [sp_toNd] at h;split at h<;>cases h
 rename_i k s m t a ks
 obtain ⟨hz,hs⟩:=hq _ rfl
 rw [szNd_mk] at hs
 refine Body.intro (rs:=[.cell 2 60]) rfl rfl rfl ?_
 apply vc_run 1000 (stop:=false) rfl;simp only [push_cast,simprocAttr]
 exact ⟨by omega,hz,by omega⟩)
noncomputable def e_toNodeSr (z:Nat):Env:=mk [(37,(sp_toNd z))] [] [] [] none
@[push_cast] theorem e_toNodeSr_e (z:Nat):MkE (e_toNodeSr z) [(37,(sp_toNd z))] [] [] [] none:=⟨rfl,rfl,rfl,rfl,rfl,rfl,rfl⟩
theorem c_toNodeSr (z:Nat) (h_toNd:CRow P0 ety0 37 (sp_toNd z)):CRow P0 ety0 13 (sp_toNds (z+1)):=CRow.of (E:=(e_toNodeSr z)) (mkOk (.cons h_toNd (.nil))) func13 rfl rfl rfl (by
 intro args p r outs h hq
 simp only [sp_toNds] at h;split at h<;>cases h
 rename_i l
 obtain ⟨hn,hz⟩:=hq _ rfl
 have hl:l.length≤1048576:=Nat.le_trans (szL_len _ _) hz
 refine Body.intro (rs:=[.tmp 2]) rfl rfl rfl ?_
 apply vc_run 1000 (stop:=false) rfl;simp only [push_cast,simprocAttr]
 refine ⟨by omega,?_⟩
 refine Run.loop [3,4] [0] [] rfl (fun m vs bs=>∃ k:Nat,vs=[.own true ⟨.node,fillL l nodeD k⟩,.int .i64 k]∧bs=[]∧k≤l.length∧m=l.length - k) l.length ?_ ?_
 ·simp only [push_cast,simprocAttr]
  exact ⟨0,by rw [fillL_0];rfl,by omega,by omega⟩
 rintro m vs bs ⟨k,rfl,rfl,hk,rfl⟩
 simp only [push_cast,simprocAttr]
 apply vc_run 1000 (stop:=false) rfl;simp only [push_cast,simprocAttr]
 rw [fillL_len _ _ _ hk]
 refine ⟨fun hlt=>?_,fun hge=>?_⟩
 ·have hlt:k < l.length:=by simpa using hlt
  have hel:szNd (l.getD k nodeD)≤1048576:=Nat.le_trans (szL_at _ _ hlt) hz
  simp only [gd_nat,Int.toNat_natCast]
  refine ⟨by omega,⟨kid_lt hn hlt,hel⟩,by omega,by constructor<;>omega,_,by omega,k+1,?_,by omega,rfl⟩
  rw [← fillL_set _ _ hlt]
  first | rfl | (cases hc:l.getD k nodeD;rfl)
 ·have hge:k=l.length:=by simp at hge;omega
  subst hge
  rw [fillL_all])
noncomputable def sp_toNodeS:Spec:=⟨[.sl .node],[.rd],false,fun
 | [.dat ⟨.node,l⟩]=>some (some (szL szNd l≤1048576),.own true ⟨.node,l⟩,[])
 | _=>none⟩
@[push_cast] theorem sp_toNodeS_s:sp_toNodeS.ps=[.sl .node]∧sp_toNodeS.modes=[.rd]∧sp_toNodeS.pure=false:=⟨rfl,rfl,rfl⟩
@[push_cast] theorem sp_toNodeS_run (l:List Node):sp_toNodeS.run [.dat ⟨.node,l⟩]=some (some (szL szNd l≤1048576),.own true ⟨.node,l⟩,[]):=rfl
theorem r_toNds:∀ z,CRow P0 ety0 13 (sp_toNds z)
 | 0=>.absurd (fun args p r outs h hq=>by
   simp only [sp_toNds] at h;split at h<;>cases h
   exact absurd (hq _ rfl).1 (Nat.not_lt_zero _)) (ent_of func13 rfl rfl)
 | z+1=>c_toNodeSr z (c_toNode z (r_toNds z))
theorem c_toNodeS:CRow P0 ety0 13 sp_toNodeS:=.all (spn:=sp_toNds) (fun _=>rfl) r_toNds (fun args p r outs h hq=>by
 simp only [sp_toNodeS] at h;split at h<;>cases h
 rename_i l
 exact ⟨szNds l+1,_,rfl,fun q hq'=>by cases hq';exact ⟨Nat.lt_succ_self _,hq _ rfl⟩⟩)
noncomputable def sp_eqNd (z:Nat):Spec:=⟨[.st .node,.st .node],[.rd,.rd],true,fun
 | [.agg [.int .i64 k,.int .i64 s,.str m,.str t,.dat ⟨.attr,a⟩,.dat ⟨.node,ks⟩],.agg [.int .i64 k2,.int .i64 s2,.str m2,.str t2,.dat ⟨.attr,a2⟩,.dat ⟨.node,ks2⟩]]=>some (some (szNds ks < z∧szNd (.mk k s m t a ks)≤1048576),.bool (eqB (Node.mk k s m t a ks) (.mk k2 s2 m2 t2 a2 ks2)),[])
 | _=>none⟩
@[push_cast] theorem sp_eqNd_s (z:Nat):(sp_eqNd z).ps=[.st .node,.st .node]∧(sp_eqNd z).modes=[.rd,.rd]∧(sp_eqNd z).pure=true:=⟨rfl,rfl,rfl⟩
@[push_cast] theorem sp_eqNd_run (z:Nat) (k s k2 s2:Int) (m t m2 t2:Str) (a a2:List Attr) (ks ks2:List Node):(sp_eqNd z).run [.agg [.int .i64 k,.int .i64 s,.str m,.str t,.dat ⟨.attr,a⟩,.dat ⟨.node,ks⟩],.agg [.int .i64 k2,.int .i64 s2,.str m2,.str t2,.dat ⟨.attr,a2⟩,.dat ⟨.node,ks2⟩]]=some (some (szNds ks < z∧szNd (.mk k s m t a ks)≤1048576),.bool (eqB (Node.mk k s m t a ks) (.mk k2 s2 m2 t2 a2 ks2)),[]):=rfl
noncomputable def sp_eqNds (z:Nat):Spec:=⟨[.sl .node,.sl .node],[.rd,.rd],true,fun
 | [.dat ⟨.node,a⟩,.dat ⟨.node,b⟩]=>some (some (szNds a < z∧szL szNd a≤1048576),.bool (eqB a b),[])
 | _=>none⟩
@[push_cast] theorem sp_eqNds_s (z:Nat):(sp_eqNds z).ps=[.sl .node,.sl .node]∧(sp_eqNds z).modes=[.rd,.rd]∧(sp_eqNds z).pure=true:=⟨rfl,rfl,rfl⟩
@[push_cast] theorem sp_eqNds_run (z:Nat) (a b:List Node):(sp_eqNds z).run [.dat ⟨.node,a⟩,.dat ⟨.node,b⟩]=some (some (szNds a < z∧szL szNd a≤1048576),.bool (eqB a b),[]):=rfl
noncomputable def e_eqNode (z:Nat):Env:=mk [(81,sp_eqAttrS),(15,(sp_eqNds z))] [] [] [] none
@[push_cast] theorem e_eqNode_e (z:Nat):MkE (e_eqNode z) [(81,sp_eqAttrS),(15,(sp_eqNds z))] [] [] [] none:=⟨rfl,rfl,rfl,rfl,rfl,rfl,rfl⟩
theorem c_eqNode (z:Nat) (h_eqNds:CRow P0 ety0 15 (sp_eqNds z)):CRow P0 ety0 39 (sp_eqNd z):=CRow.of (E:=(e_eqNode z)) (mkOk (.cons c_eqAttrS (.cons h_eqNds (.nil)))) func39 rfl rfl rfl (by
 intro args p r outs h hq
 simp only [sp_eqNd] at h;split at h<;>cases h
 rename_i k s k2 s2 m t m2 t2 a a2 ks ks2
 obtain ⟨hz,hs⟩:=hq _ rfl
 rw [szNd_mk] at hs
 refine Body.intro (rs:=[.tmp 4]) rfl rfl rfl ?_
 apply vc_run 1000 (stop:=false) rfl;simp only [push_cast,simprocAttr]
 refine ⟨fun h=>?_,fun h1=>⟨fun h=>?_,fun h2=>⟨fun h=>?_,fun h3=>⟨fun h=>?_,fun h4=>⟨by omega,fun h=>?_,fun h5=>⟨⟨hz,by omega⟩,fun h=>?_,fun h6=>?_⟩⟩⟩⟩⟩⟩
 ·rw [eqB_ne];intro e;cases e;simp at h
 ·rw [eqB_ne];intro e;cases e;simp at h
 ·rw [eqB_ne];intro e;cases e;simp at h
 ·rw [eqB_ne];intro e;cases e;simp at h
 ·rw [eqB_ne];intro e;cases e;exact eqB_yes h rfl
 ·rw [eqB_ne];intro e;cases e;exact eqB_yes h rfl
 ·simp at h1 h2 h3 h4
  rw [h1,h2,h3,h4,eqB_not h5,eqB_not h6,eqB_of rfl])
noncomputable def e_eqNodeSr (z:Nat):Env:=mk [(39,(sp_eqNd z))] [(6,[],[(true,[0,1,2,3,4,5,6,7,8,9],[])])] [] [] none
@[push_cast] theorem e_eqNodeSr_e (z:Nat):MkE (e_eqNodeSr z) [(39,(sp_eqNd z))] [(6,[],[(true,[0,1,2,3,4,5,6,7,8,9],[])])] [] [] none:=⟨rfl,rfl,rfl,rfl,rfl,rfl,rfl⟩
theorem c_eqNodeSr (z:Nat) (h_eqNd:CRow P0 ety0 39 (sp_eqNd z)):CRow P0 ety0 15 (sp_eqNds (z+1)):=CRow.of (E:=(e_eqNodeSr z)) (mkOk (.cons h_eqNd (.nil))) func15 rfl rfl rfl (by
 intro args p r outs h hq
 simp only [sp_eqNds] at h;split at h<;>cases h
 rename_i a b
 obtain ⟨hn,hz⟩:=hq _ rfl
 have hl:a.length≤1048576:=Nat.le_trans (szL_len _ _) hz
 refine Body.intro (rs:=[.tmp 4]) rfl rfl rfl ?_
 apply vc_run 1000 (stop:=false) rfl;simp only [push_cast,simprocAttr]
 refine ⟨fun h=>?_,fun h=>?_⟩
 ·rw [eqB_ne];intro e;subst e;simp at h
 have h:a.length=b.length:=by simp at h;omega
 refine Run.loop [5] [0,1] [] rfl (fun m vs bs=>∃ k:Nat,vs=[.int .i64 k]∧bs=[]∧k≤a.length∧(∀ j < k,a.getD j nodeD=b.getD j nodeD)∧m=a.length - k) a.length ?_ ?_
 ·simp only [push_cast,simprocAttr]
  exact ⟨0,by simp,by omega,by simp,by omega⟩
 rintro m vs bs ⟨k,rfl,rfl,hk,hb,rfl⟩
 simp only [push_cast,simprocAttr]
 apply vc_run 1000 (stop:=false) rfl;simp only [push_cast,simprocAttr]
 refine ⟨fun hlt=>?_,fun hge=>?_⟩
 ·have hlt:k < a.length:=by simpa using hlt
  have hel:szNd (a.getD k nodeD)≤1048576:=Nat.le_trans (szL_at _ _ hlt) hz
  simp only [gd_nat]
  refine ⟨by omega,by omega,⟨kid_lt hn hlt,hel⟩,fun hne=>?_,fun heq=>⟨by constructor<;>omega,_,by omega,k+1,rfl,by omega,fun j hj=>?_,rfl⟩⟩
  ·rw [eqB_ne];intro e;subst e;first | (simp at hne;done) | exact absurd hne (by simp [eqB_self])
  ·rcases Nat.lt_or_eq_of_le (Nat.le_of_lt_succ hj) with h | rfl
   ·exact hb j h
   ·first | exact eqB_not heq | (simpa using heq;done) | exact eqK (eqB_not heq)
 ·have hge:k=a.length:=by simp at hge;omega
  subst hge
  rw [eqB_of (list_eq nodeD h hb)])
noncomputable def sp_eqNodeS:Spec:=⟨[.sl .node,.sl .node],[.rd,.rd],true,fun
 | [.dat ⟨.node,a⟩,.dat ⟨.node,b⟩]=>some (some (szL szNd a≤1048576),.bool (eqB a b),[])
 | _=>none⟩
@[push_cast] theorem sp_eqNodeS_s:sp_eqNodeS.ps=[.sl .node,.sl .node]∧sp_eqNodeS.modes=[.rd,.rd]∧sp_eqNodeS.pure=true:=⟨rfl,rfl,rfl⟩
@[push_cast] theorem sp_eqNodeS_run (a b:List Node):sp_eqNodeS.run [.dat ⟨.node,a⟩,.dat ⟨.node,b⟩]=some (some (szL szNd a≤1048576),.bool (eqB a b),[]):=rfl
theorem r_eqNds:∀ z,CRow P0 ety0 15 (sp_eqNds z)
 | 0=>.absurd (fun args p r outs h hq=>by
   simp only [sp_eqNds] at h;split at h<;>cases h
   exact absurd (hq _ rfl).1 (Nat.not_lt_zero _)) (ent_of func15 rfl rfl)
 | z+1=>c_eqNodeSr z (c_eqNode z (r_eqNds z))
theorem c_eqNodeS:CRow P0 ety0 15 sp_eqNodeS:=.all (spn:=sp_eqNds) (fun _=>rfl) r_eqNds (fun args p r outs h hq=>by
 simp only [sp_eqNodeS] at h;split at h<;>cases h
 rename_i a b
 exact ⟨szNds a+1,_,rfl,fun q hq'=>by cases hq';exact ⟨Nat.lt_succ_self _,hq _ rfl⟩⟩)
end Go.Ab
