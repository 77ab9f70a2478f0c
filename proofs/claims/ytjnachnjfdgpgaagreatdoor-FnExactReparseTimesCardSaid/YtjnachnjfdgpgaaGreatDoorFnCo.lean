import Derived.Test.YtjnachnjfdgpgaaGreatDoorFnT
set_option linter.all false
set_option maxRecDepth 20000
set_option maxHeartbeats 1000000
namespace Go.Ab
open Go Go.Proofs.Tryz
noncomputable def sp_cloneA:Spec:=⟨[.sl .attr],[.rd],false,fun
 | [.dat ⟨.attr,l⟩]=>some (some (l.length≤1073741824),.own true ⟨.attr,l⟩,[])
 | _=>none⟩
@[push_cast] theorem sp_cloneA_s:sp_cloneA.ps=[.sl .attr]∧sp_cloneA.modes=[.rd]∧sp_cloneA.pure=false:=⟨rfl,rfl,rfl⟩
@[push_cast] theorem sp_cloneA_run (l:List Attr):sp_cloneA.run [.dat ⟨.attr,l⟩]=some (some (l.length≤1073741824),.own true ⟨.attr,l⟩,[]):=rfl
noncomputable def e_cloneA:Env:=mk [] [] [(2000000,[.nil .attr 2])] [] none
@[push_cast] theorem e_cloneA_e:MkE e_cloneA [] [] [(2000000,[.nil .attr 2])] [] none:=⟨rfl,rfl,rfl,rfl,rfl,rfl,rfl⟩
theorem c_cloneA:CRow P0 ety0 145 sp_cloneA:=CRow.of (E:=e_cloneA) (mkOk (.nil)) func145 rfl rfl rfl (by
 intro args p r outs h hq
 simp only [sp_cloneA] at h;split at h<;>cases h
 rename_i l
 have hz:=hq _ rfl
 cases l with
 | nil =>
  refine Body.intro (rs:=[.tmp 2]) rfl rfl rfl ?_
  apply vc_run 1000 (stop:=false) rfl;simp only [push_cast,simprocAttr]
  unfold sizeOk
  omega
 | cons x r =>
  refine Body.intro (rs:=[.tmp 2]) rfl rfl rfl ?_
  apply vc_run 1000 (stop:=false) rfl;simp only [push_cast,simprocAttr]
  refine ⟨fun h=>h.elim,?_⟩
  unfold sizeOk
  simp only [List.length_cons] at hz
  omega)
noncomputable def sp_cloNd (z:Nat):Spec:=⟨[.st .node],[.rd],false,fun
 | [.agg [.int .i64 k,.int .i64 s,.str m,.str t,.dat ⟨.attr,a⟩,.dat ⟨.node,ks⟩]]=>some (some (szNds ks < z∧szNd (.mk k s m t a ks)≤1048576),.agg [.int .i64 k,.int .i64 s,.str m,.str t,.own true ⟨.attr,a⟩,.own true ⟨.node,ks⟩],[])
 | _=>none⟩
@[push_cast] theorem sp_cloNd_s (z:Nat):(sp_cloNd z).ps=[.st .node]∧(sp_cloNd z).modes=[.rd]∧(sp_cloNd z).pure=false:=⟨rfl,rfl,rfl⟩
@[push_cast] theorem sp_cloNd_run (z:Nat) (k s:Int) (m t:Str) (a:List Attr) (ks:List Node):(sp_cloNd z).run [.agg [.int .i64 k,.int .i64 s,.str m,.str t,.dat ⟨.attr,a⟩,.dat ⟨.node,ks⟩]]=some (some (szNds ks < z∧szNd (.mk k s m t a ks)≤1048576),.agg [.int .i64 k,.int .i64 s,.str m,.str t,.own true ⟨.attr,a⟩,.own true ⟨.node,ks⟩],[]):=rfl
noncomputable def sp_cloNds (z:Nat):Spec:=⟨[.sl .node],[.rd],false,fun
 | [.dat ⟨.node,l⟩]=>some (some (szNds l < z∧szL szNd l≤1048576),.own true ⟨.node,l⟩,[])
 | _=>none⟩
@[push_cast] theorem sp_cloNds_s (z:Nat):(sp_cloNds z).ps=[.sl .node]∧(sp_cloNds z).modes=[.rd]∧(sp_cloNds z).pure=false:=⟨rfl,rfl,rfl⟩
@[push_cast] theorem sp_cloNds_run (z:Nat) (l:List Node):(sp_cloNds z).run [.dat ⟨.node,l⟩]=some (some (szNds l < z∧szL szNd l≤1048576),.own true ⟨.node,l⟩,[]):=rfl
noncomputable def e_cloned_ (z:Nat):Env:=mk [(145,sp_cloneA),(48,(sp_cloNds z))] [(1,[10,13,15],[(true,[0,1,2,3,4,5,6,7,8,9,10,11,12,13,14,15],[[1,2],[1,2],[1,2],[1,2],[1,2],[1,2],[1,2],[1,2],[],[],[],[0],[0]])])] [] [] none
@[push_cast] theorem e_cloned__e (z:Nat):MkE (e_cloned_ z) [(145,sp_cloneA),(48,(sp_cloNds z))] [(1,[10,13,15],[(true,[0,1,2,3,4,5,6,7,8,9,10,11,12,13,14,15],[[1,2],[1,2],[1,2],[1,2],[1,2],[1,2],[1,2],[1,2],[],[],[],[0],[0]])])] [] [] none:=⟨rfl,rfl,rfl,rfl,rfl,rfl,rfl⟩
theorem c_cloned_ (z:Nat) (h_cloNds:CRow P0 ety0 48 (sp_cloNds z)):CRow P0 ety0 82 (sp_cloNd z):=CRow.of (E:=(e_cloned_ z)) (mkOk (.cons c_cloneA (.cons h_cloNds (.nil)))) func82 rfl rfl rfl (by
 intro args p r outs h hq
 simp only [sp_cloNd] at h;split at h<;>cases h
 rename_i k s m t a ks
 obtain ⟨hz,hs⟩:=hq _ rfl
 rw [szNd_mk] at hs
 have ha:=szL_len szAt a
 refine Body.intro (rs:=[.cell 2 60]) rfl rfl rfl ?_
 apply vc_run 1000 (stop:=false) rfl;simp only [push_cast,simprocAttr]
 exact ⟨by omega,hz,by omega⟩)
noncomputable def e_cloneds_ (z:Nat):Env:=mk [(82,(sp_cloNd z))] [] [] [] none
@[push_cast] theorem e_cloneds__e (z:Nat):MkE (e_cloneds_ z) [(82,(sp_cloNd z))] [] [] [] none:=⟨rfl,rfl,rfl,rfl,rfl,rfl,rfl⟩
theorem c_cloneds_ (z:Nat) (h_cloNd:CRow P0 ety0 82 (sp_cloNd z)):CRow P0 ety0 48 (sp_cloNds (z+1)):=CRow.of (E:=(e_cloneds_ z)) (mkOk (.cons h_cloNd (.nil))) func48 rfl rfl rfl (by
 intro args p r outs h hq
 simp only [sp_cloNds] at h;split at h<;>cases h
 rename_i l
 obtain ⟨hn,hz⟩:=hq _ rfl
 have hl:=szL_len szNd l
 refine Body.intro (rs:=[.tmp 2]) rfl rfl rfl ?_
 apply vc_run 1000 (stop:=false) rfl;simp only [push_cast,simprocAttr]
 refine Run.loop [3,9] [7,8] [] rfl (fun n vs bs=>∃ j:Nat,vs=[.own true ⟨.node,l.take j⟩,.int .i64 j]∧bs=[]∧j≤l.length∧n=l.length - j) l.length ?_ ?_
 ·simp only [push_cast,simprocAttr]
  exact ⟨0,rfl,by omega,by omega⟩
 rintro n vs bs ⟨j,rfl,rfl,hj,rfl⟩
 simp only [push_cast,simprocAttr]
 apply vc_run 1000 (stop:=false) rfl;simp only [push_cast,simprocAttr]
 refine ⟨fun hlt=>?_,fun hge=>?_⟩
 ·have hlt:j < l.length:=Int.ofNat_lt.1 (of_decide_eq_true hlt)
  have hel:=szL_at szNd nodeD hlt
  simp only [gd_nat]
  refine ⟨by omega,⟨kid_lt hn hlt,by omega⟩,by unfold sizeOk;rw [List.length_take];omega,by constructor<;>omega,_,by omega,j+1,?_,by omega,rfl⟩
  rw [List.take_succ_eq_append_getElem hlt]
  have e:l.getD j nodeD=l[j]:=by simp [List.getD,hlt]
  rw [e];rfl
 ·have hge:j=l.length:=by have:=of_decide_eq_false hge;omega
  subst hge
  rw [List.take_length])
theorem r_cloNds:∀ z,CRow P0 ety0 48 (sp_cloNds z)
 | 0=>.absurd (fun args p r outs h hq=>by
   simp only [sp_cloNds] at h;split at h<;>cases h
   exact absurd (hq _ rfl).1 (Nat.not_lt_zero _)) (ent_of func48 rfl rfl)
 | z+1=>c_cloneds_ z (c_cloned_ z (r_cloNds z))
noncomputable def sp_clonedT:Spec:=⟨[.sl .node],[.rd],false,fun
 | [.dat ⟨.node,l⟩]=>some (some (szL szNd l≤1048576),.own true ⟨.node,l⟩,[])
 | _=>none⟩
@[push_cast] theorem sp_clonedT_s:sp_clonedT.ps=[.sl .node]∧sp_clonedT.modes=[.rd]∧sp_clonedT.pure=false:=⟨rfl,rfl,rfl⟩
@[push_cast] theorem sp_clonedT_run (l:List Node):sp_clonedT.run [.dat ⟨.node,l⟩]=some (some (szL szNd l≤1048576),.own true ⟨.node,l⟩,[]):=rfl
theorem c_clonedT:CRow P0 ety0 48 sp_clonedT:=.all (spn:=sp_cloNds) (fun _=>rfl) r_cloNds (fun args p r outs h hq=>by
 simp only [sp_clonedT] at h;split at h<;>cases h
 rename_i l
 exact ⟨szNds l+1,_,rfl,fun q hq'=>by cases hq';exact ⟨Nat.lt_succ_self _,hq _ rfl⟩⟩)
noncomputable def sp_cpNds (z:Nat):Spec:=⟨[.sl .node],[.rd],false,fun
 | [.dat ⟨.node,l⟩]=>some (some (szNds l < z∧szL szNd l≤1048576),.own true ⟨.node,l⟩,[])
 | _=>none⟩
@[push_cast] theorem sp_cpNds_s (z:Nat):(sp_cpNds z).ps=[.sl .node]∧(sp_cpNds z).modes=[.rd]∧(sp_cpNds z).pure=false:=⟨rfl,rfl,rfl⟩
@[push_cast] theorem sp_cpNds_run (z:Nat) (l:List Node):(sp_cpNds z).run [.dat ⟨.node,l⟩]=some (some (szNds l < z∧szL szNd l≤1048576),.own true ⟨.node,l⟩,[]):=rfl
noncomputable def e_l03Copy_ (z:Nat):Env:=mk [(40,(sp_cpNds z))] [] [] [] none
@[push_cast] theorem e_l03Copy__e (z:Nat):MkE (e_l03Copy_ z) [(40,(sp_cpNds z))] [] [] [] none:=⟨rfl,rfl,rfl,rfl,rfl,rfl,rfl⟩
theorem c_l03Copy_ (z:Nat) (h_cpNds:CRow P0 ety0 40 (sp_cpNds z)):CRow P0 ety0 40 (sp_cpNds (z+1)):=CRow.of (E:=(e_l03Copy_ z)) (mkOk (.cons h_cpNds (.nil))) func40 rfl rfl rfl (by
 intro args p r outs h hq
 simp only [sp_cpNds] at h;split at h<;>cases h
 rename_i l
 obtain ⟨hn,hz⟩:=hq _ rfl
 have hl:=szL_len szNd l
 refine Body.intro (rs:=[.tmp 2]) rfl rfl rfl ?_
 apply vc_run 1000 (stop:=false) rfl;simp only [push_cast,simprocAttr]
 refine Run.loop [3,4] [0] [] rfl (fun n vs bs=>∃ j:Nat,vs=[.own true ⟨.node,l.take j⟩,.int .i64 j]∧bs=[]∧j≤l.length∧n=l.length - j) l.length ?_ ?_
 ·simp only [push_cast,simprocAttr]
  exact ⟨0,rfl,by omega,by omega⟩
 rintro n vs bs ⟨j,rfl,rfl,hj,rfl⟩
 simp only [push_cast,simprocAttr]
 apply vc_run 1000 (stop:=false) rfl;simp only [push_cast,simprocAttr]
 refine ⟨fun hlt=>?_,fun hge=>?_⟩
 ·have hlt:j < l.length:=Int.ofNat_lt.1 (of_decide_eq_true hlt)
  have hel:=szL_at szNd nodeD hlt
  have hsz:=szNd_eq (l.getD j nodeD)
  have hat:=szL_len szAt (l.getD j nodeD).attrs
  have htk:l.take (j+1)=l.take j++[l.getD j nodeD]:=by
   rw [List.take_succ_eq_append_getElem hlt];simp [List.getD,hlt]
  simp only [gd_nat]
  refine ⟨by omega,by unfold sizeOk;omega,⟨kid_lt hn hlt,by omega⟩,by unfold sizeOk;rw [List.length_take];omega,by constructor<;>omega,_,?_,j+1,by rw [htk];rfl,by omega,rfl⟩
  omega
 ·have hge:j=l.length:=by have:=of_decide_eq_false hge;omega
  subst hge
  rw [List.take_length])
theorem r_cpNds:∀ z,CRow P0 ety0 40 (sp_cpNds z)
 | 0=>.absurd (fun args p r outs h hq=>by
   simp only [sp_cpNds] at h;split at h<;>cases h
   exact absurd (hq _ rfl).1 (Nat.not_lt_zero _)) (ent_of func40 rfl rfl)
 | z+1=>c_l03Copy_ z (r_cpNds z)
theorem c_l03Copy:CRow P0 ety0 40 sp_clonedT:=.all (spn:=sp_cpNds) (fun _=>rfl) r_cpNds (fun args p r outs h hq=>by
 simp only [sp_clonedT] at h;split at h<;>cases h
 rename_i l
 exact ⟨szNds l+1,_,rfl,fun q hq'=>by cases hq';exact ⟨Nat.lt_succ_self _,hq _ rfl⟩⟩)
end Go.Ab
