import Derived.Test.YtjnachnjfdgpgaaGreatDoorFnSi
import Derived.Test.YtjnachnjfdgpgaaGreatDoorLibBu
set_option linter.all false
set_option maxRecDepth 20000
set_option maxHeartbeats 1000000
namespace Go.Ab
open Go Go.Proofs.Tryz
open Go.Lib
mutual
def kdNd:Node→Prop
 | .mk k _ _ _ _ ks=>(k=1∨k=2∨k=3)∧kdNds ks
def kdNds:List Node→Prop
 | []=>True
 | x :: r=>kdNd x∧kdNds r
end
theorem kdNd_eq (x:Node):kdNd x↔(x.kind=1∨x.kind=2∨x.kind=3)∧kdNds x.kids:=by cases x;exact Iff.rfl
theorem kdNds_mem:∀ {l:List Node},kdNds l↔∀ x∈l,kdNd x
 | []=>⟨fun _ _ h=>(by cases h),fun _=>trivial⟩
 | y :: r=>⟨fun h x hx=>by
   rcases List.mem_cons.1 hx with rfl | hx
   ·exact h.1
   ·exact kdNds_mem.1 h.2 x hx,fun h=>⟨h y List.mem_cons_self,kdNds_mem.2 fun x hx=>h x (List.mem_cons_of_mem _ hx)⟩⟩
theorem kdNds_at {l:List Node} (h:kdNds l) {i:Nat} (hi:i < l.length):kdNd (l.getD i nodeD):=by
 refine kdNds_mem.1 h _ ?_
 rw [List.getD_eq_getElem?_getD,List.getElem?_eq_getElem hi]
 exact List.getElem_mem hi
noncomputable def sp_serI (z:Nat):Spec:=⟨[.sl .node,.sc],[.rd,.rd],true,fun
 | [.dat ⟨.node,l⟩,.bool raw]=>some (some (szNds l < z∧szL szNd l≤1048576∧kdNds l),.str (serNds l raw),[])
 | _=>none⟩
@[push_cast] theorem sp_serI_s (z:Nat):(sp_serI z).ps=[.sl .node,.sc]∧(sp_serI z).modes=[.rd,.rd]∧(sp_serI z).pure=true:=⟨rfl,rfl,rfl⟩
@[push_cast] theorem sp_serI_run (z:Nat) (l:List Node) (raw:Bool):(sp_serI z).run [.dat ⟨.node,l⟩,.bool raw]=some (some (szNds l < z∧szL szNd l≤1048576∧kdNds l),.str (serNds l raw),[]):=rfl
noncomputable def e_serialize_ (z:Nat):Env:=mk [(100,sp_bws),(105,sp_bst),(103,sp_startS),(101,sp_escTi),(102,sp_voidNd),(104,sp_rawNd),(59,(sp_serI z))] [(5,[13],[(true,[0,1,2,3,4,5,6,7,8,9,10,11,12,13],[])])] [(9,[.nib .u8 5 1])] [] none
@[push_cast] theorem e_serialize__e (z:Nat):MkE (e_serialize_ z) [(100,sp_bws),(105,sp_bst),(103,sp_startS),(101,sp_escTi),(102,sp_voidNd),(104,sp_rawNd),(59,(sp_serI z))] [(5,[13],[(true,[0,1,2,3,4,5,6,7,8,9,10,11,12,13],[])])] [(9,[.nib .u8 5 1])] [] none:=⟨rfl,rfl,rfl,rfl,rfl,rfl,rfl⟩
theorem c_serialize_ (z:Nat) (h_serI:CRow P0 ety0 59 (sp_serI z)):CRow P0 ety0 59 (sp_serI (z+1)):=CRow.of (E:=(e_serialize_ z)) (mkOk (.cons c_bws (.cons c_bst (.cons c_startSi (.cons c_escTi (.cons c_voidNd (.cons c_rawNd (.cons h_serI (.nil))))))))) func59 rfl rfl rfl (by
 intro args p r outs h hq
 simp only [sp_serI] at h;split at h<;>cases h
 rename_i l raw
 obtain ⟨hn,hz,hkd⟩:=hq _ rfl
 have hl:=szL_len szNd l
 refine Body.intro (rs:=[.tmp 4]) rfl rfl rfl ?_
 apply vc_run 1000 (stop:=false) rfl;simp only [push_cast,simprocAttr]
 refine Run.loop [11] [1,5,9,10] [0] rfl (fun n vs bs=>∃ i:Nat,vs=[.int .i64 i]∧bs=[[.slf 0 121,.own true ⟨.u8,serNds (l.take i) raw⟩]]∧i≤l.length∧n=l.length - i) l.length ?_ ?_
 ·simp only [push_cast,simprocAttr]
  exact ⟨0,rfl,rfl,by omega,by omega⟩
 rintro n vs bs ⟨i,rfl,rfl,hi,rfl⟩
 simp only [push_cast,simprocAttr]
 apply vc_run 1000 (stop:=false) rfl;simp only [push_cast,simprocAttr]
 have htl:=serNds_len (l.take i) raw
 rw [szNds_eq] at htl
 have hst:=szL_take szNd l i
 refine ⟨fun h=>?_,fun h=>?_⟩
 ·have hlt:i < l.length:=by have:=of_decide_eq_true h;omega
  have hel:=szL_at1 szNd nodeD hlt
  have hsz:=szNd_eq (l.getD i nodeD)
  have htk:l.take (i+1)=l.take i++[l.getD i nodeD]:=by
   rw [List.take_succ_eq_append_getElem hlt];simp [List.getD,hlt]
  have hks:=kid_lt hn hlt
  have hkx:=(kdNd_eq _).1 (kdNds_at hkd hlt)
  simp only [gd_nat]
  generalize l.getD i nodeD=x at *
  have hx:=serNd_eq x raw
  have hxl:=serNd_len x raw
  have fin:∀ s:Str,serNd x raw=s→∃ j,j < l.length - i∧∃ i1:Nat,[AV.int .i64 ((i:Int)+1)]=[.int .i64 (i1:Int)]∧[[AV.slf 0 121,.own true ⟨.u8,serNds (l.take i) raw++s⟩]]=[[.slf 0 121,.own true ⟨.u8,serNds (l.take i1) raw⟩]]∧i1≤l.length∧j=l.length - i1:=fun s hs =>
   ⟨l.length - (i+1),by omega,i+1,rfl,by rw [htk,serNds_app,hs],by omega,rfl⟩
  have i0:i64ok ((i:Int)+1):=by constructor<;>omega
  have he:=escT_len x.text
  have hsl:=startS_len x.name x.attrs
  refine ⟨⟨by omega,by omega⟩,fun g=>?_,fun g=>⟨fun g2=>?_,fun g2=>⟨fun g3=>?_,fun g3=>?_⟩⟩⟩
  ·have hk:=of_decide_eq_true g
   exact ⟨by omega,by omega,by omega,i0,fin _ (by rw [hx,if_neg (by omega),if_pos hk];simp)⟩
  ·have hk:x.kind=2∧raw=true:=by
    cases h1:decide (x.kind=2)<;>rw [h1] at g2
    ·cases g2
    ·exact ⟨of_decide_eq_true h1,g2⟩
   exact ⟨by omega,i0,fin _ (by rw [hx,if_pos hk.1,if_pos hk.2])⟩
  ·have hk:=of_decide_eq_true g3
   have hr:¬ raw=true:=fun e=>by rw [g3,e] at g2;cases g2
   exact ⟨by omega,by omega,i0,fin _ (by rw [hx,if_pos hk,if_neg hr])⟩
  ·have hk1:x.kind=1:=by
    have h3:=of_decide_eq_false g
    have h2:=of_decide_eq_false g3
    omega
   have hel0:isEl0 x=decide (x.space=0):=by unfold isEl0;rw [hk1];simp
   rw [hel0]
   have hx2:serNd x raw=startS x.name x.attrs++(if x.space=0∧isVoidS x.name=true then [] else serNds x.kids (decide (x.space=0)&&isRawS x.name)++([60,47]++x.name++[62])):=by
    rw [hx,if_neg (of_decide_eq_false g3),if_neg (of_decide_eq_false g)]
   refine ⟨fun g4=>?_,fun g4=>?_⟩
   ·have hv:x.space=0∧isVoidS x.name=true:=⟨of_decide_eq_true g4.1,g4.2⟩
    rw [if_pos hv,List.append_nil] at hx2
    exact ⟨by omega,by omega,i0,fin _ hx2⟩
   ·have hv:¬ (x.space=0∧isVoidS x.name=true):=fun e=>by rw [decide_eq_true e.1,e.2] at g4;cases g4
    rw [if_neg hv] at hx2
    have hkl:=serNds_len x.kids (decide (x.space=0)&&isRawS x.name)
    rw [szNds_eq] at hkl
    refine ⟨by omega,⟨hks,by omega,hkx.2⟩,by omega,by omega,by omega,by omega,by omega,i0,?_⟩
    exact fin _ (by rw [hx2];simp)
 ·have hge:i=l.length:=by have:=of_decide_eq_false h;omega
  subst hge
  rw [List.take_length] at htl ⊢
  exact ⟨by omega,rfl⟩)
end Go.Ab
