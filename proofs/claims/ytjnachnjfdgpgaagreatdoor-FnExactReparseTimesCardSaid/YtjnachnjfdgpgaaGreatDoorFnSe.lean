import Derived.Test.YtjnachnjfdgpgaaGreatDoorFnBf
import Derived.Test.YtjnachnjfdgpgaaGreatDoorPlEs
set_option linter.all false
set_option maxRecDepth 20000
set_option maxHeartbeats 1000000
namespace Go.Ab
open Go Go.Proofs.Tryz
open Go.Lib
noncomputable def sp_escT:Spec:=⟨[.sc],[.rd],true,fun
 | [.str t]=>some (some (t.length≤1073741824),.str (escT t),[])
 | _=>none⟩
@[push_cast] theorem sp_escT_s:sp_escT.ps=[.sc]∧sp_escT.modes=[.rd]∧sp_escT.pure=true:=⟨rfl,rfl,rfl⟩
@[push_cast] theorem sp_escT_run (t:Str):sp_escT.run [.str t]=some (some (t.length≤1073741824),.str (escT t),[]):=rfl
noncomputable def e_escT:Env:=mk [] [] [] [] none
@[push_cast] theorem e_escT_e:MkE e_escT [] [] [] [] none:=⟨rfl,rfl,rfl,rfl,rfl,rfl,rfl⟩
theorem c_escT:CRow P0 ety0 90 sp_escT:=CRow.of (E:=e_escT) (mkOk (.nil)) func90 rfl rfl rfl (by
 intro args p r outs h hq
 simp only [sp_escT] at h;split at h<;>cases h
 rename_i t
 have hz:=hq _ rfl
 refine Body.intro (rs:=[.tmp 2]) rfl rfl rfl ?_
 apply vc_run 1000 (stop:=false) rfl;simp only [push_cast,simprocAttr]
 refine Run.loop [3,4] [0] [] rfl (fun n vs bs=>∃ i:Nat,vs=[.str (escT (t.take i)),.int .i64 i]∧bs=[]∧i≤t.length∧n=t.length - i) t.length ?_ ?_
 ·simp only [push_cast,simprocAttr]
  exact ⟨0,rfl,by omega,by omega⟩
 rintro n vs bs ⟨i,rfl,rfl,hi,rfl⟩
 simp only [push_cast,simprocAttr]
 apply vc_run 1000 (stop:=false) rfl;simp only [push_cast,simprocAttr]
 have hl:=flatMap_len (f:=escC) (n:=6) (fun c=>Nat.le_succ_of_le (escC_len c)) (t.take i)
 have hl2:(t.take i).length≤t.length:=by rw [List.length_take];omega
 change (escT (t.take i)).length≤_ at hl
 refine ⟨fun h=>?_,fun h=>?_⟩
 ·have hlt:i < t.length:=by have:=of_decide_eq_true h;omega
  have hcut:cut t (i:Int) ((i:Int)+1)=[t.getD i 0]:=cut_one hlt
  have hb:byteAt t (i:Int)=t.getD i 0:=by unfold byteAt;rw [Int.toNat_natCast]
  have fin:∀ s:Str,s=escC (t.getD i 0)→∃ j,j < t.length - i∧∃ i1:Nat,[AV.str (escT (t.take i)++s),.int .i64 ((i:Int)+1)]=[.str (escT (t.take i1)),.int .i64 (i1:Int)]∧i1≤t.length∧j=t.length - i1:=fun s hs =>
   ⟨t.length - (i+1),by omega,i+1,by rw [escT,escT,take_flat hlt,hs];rfl,by omega,rfl⟩
  have i0:i64ok ((i:Int)+1):=by constructor<;>omega
  simp only [hcut,hb]
  have hc:escC (t.getD i 0)=_:=rfl
  refine ⟨by omega,fun g=>?_,fun g=>⟨fun g2=>?_,fun g2=>⟨fun g3=>?_,fun g3=>?_⟩⟩⟩
  ·exact ⟨by omega,i0,fin _ (by unfold escC;rw [if_pos (of_decide_eq_true g)])⟩
  ·exact ⟨by omega,i0,fin _ (by unfold escC;rw [if_neg (of_decide_eq_false g),if_pos (of_decide_eq_true g2)])⟩
  ·exact ⟨by omega,i0,fin _ (by unfold escC;rw [if_neg (of_decide_eq_false g),if_neg (of_decide_eq_false g2),if_pos (of_decide_eq_true g3)])⟩
  ·exact ⟨i0,by omega,by simp;omega,i0,fin _ (by unfold escC;rw [if_neg (of_decide_eq_false g),if_neg (of_decide_eq_false g2),if_neg (of_decide_eq_false g3)])⟩
 ·have hge:i=t.length:=by have:=of_decide_eq_false h;omega
  subst hge
  rw [List.take_length])
noncomputable def sp_escV:Spec:=⟨[.sc],[.rd],true,fun
 | [.str t]=>some (some (t.length≤1073741824),.str (escV t),[])
 | _=>none⟩
@[push_cast] theorem sp_escV_s:sp_escV.ps=[.sc]∧sp_escV.modes=[.rd]∧sp_escV.pure=true:=⟨rfl,rfl,rfl⟩
@[push_cast] theorem sp_escV_run (t:Str):sp_escV.run [.str t]=some (some (t.length≤1073741824),.str (escV t),[]):=rfl
noncomputable def e_escV:Env:=mk [(90,sp_escT)] [] [] [] none
@[push_cast] theorem e_escV_e:MkE e_escV [(90,sp_escT)] [] [] [] none:=⟨rfl,rfl,rfl,rfl,rfl,rfl,rfl⟩
theorem c_escV:CRow P0 ety0 155 sp_escV:=CRow.of (E:=e_escV) (mkOk (.cons c_escT (.nil))) func155 rfl rfl rfl (by
 intro args p r outs h hq
 simp only [sp_escV] at h;split at h<;>cases h
 rename_i t
 have hz:=hq _ rfl
 refine Body.intro (rs:=[.tmp 2]) rfl rfl rfl ?_
 apply vc_run 1000 (stop:=false) rfl;simp only [push_cast,simprocAttr]
 refine Run.loop [3,4] [0] [] rfl (fun n vs bs=>∃ i:Nat,vs=[.str (escV (t.take i)),.int .i64 i]∧bs=[]∧i≤t.length∧n=t.length - i) t.length ?_ ?_
 ·simp only [push_cast,simprocAttr]
  exact ⟨0,rfl,by omega,by omega⟩
 rintro n vs bs ⟨i,rfl,rfl,hi,rfl⟩
 simp only [push_cast,simprocAttr]
 apply vc_run 1000 (stop:=false) rfl;simp only [push_cast,simprocAttr]
 have hl:=flatMap_len (f:=escQ) (n:=6) escQ_len (t.take i)
 have hl2:(t.take i).length≤t.length:=by rw [List.length_take];omega
 change (escV (t.take i)).length≤_ at hl
 refine ⟨fun h=>?_,fun h=>?_⟩
 ·have hlt:i < t.length:=by have:=of_decide_eq_true h;omega
  have hcut:cut t (i:Int) ((i:Int)+1)=[t.getD i 0]:=cut_one hlt
  have hb:byteAt t (i:Int)=t.getD i 0:=by unfold byteAt;rw [Int.toNat_natCast]
  have fin:∀ s:Str,s=escQ (t.getD i 0)→∃ j,j < t.length - i∧∃ i1:Nat,[AV.str (escV (t.take i)++s),.int .i64 ((i:Int)+1)]=[.str (escV (t.take i1)),.int .i64 (i1:Int)]∧i1≤t.length∧j=t.length - i1:=fun s hs =>
   ⟨t.length - (i+1),by omega,i+1,by rw [escV,escV,take_flat hlt,hs];rfl,by omega,rfl⟩
  have i0:i64ok ((i:Int)+1):=by constructor<;>omega
  simp only [hcut,hb]
  have he:escT [t.getD i 0]=escC (t.getD i 0):=by simp [escT]
  have hel:=escC_len (t.getD i 0)
  rw [he]
  refine ⟨by omega,fun g=>?_,fun g=>?_⟩
  ·exact ⟨by omega,i0,fin _ (by unfold escQ;rw [if_pos (of_decide_eq_true g)])⟩
  ·exact ⟨i0,by omega,by simp,by omega,i0,fin _ (by unfold escQ;rw [if_neg (of_decide_eq_false g)])⟩
 ·have hge:i=t.length:=by have:=of_decide_eq_false h;omega
  subst hge
  rw [List.take_length])
def atS (a:Attr):Str:=32 :: a.name++[61,34]++escV a.value++[34]
def startS (m:Str) (a:List Attr):Str:=(60 :: m)++a.flatMap atS++[62]
theorem escV_len (t:Str):(escV t).length≤6 * t.length:=flatMap_len escQ_len t
theorem escT_len (t:Str):(escT t).length≤6 * t.length:=flatMap_len (fun c=>Nat.le_succ_of_le (escC_len c)) t
theorem atS_len (a:Attr):(atS a).length≤6 * (szAt a+1):=by
 have:=escV_len a.value
 unfold atS szAt
 simp only [List.length_append,List.length_cons,List.length_nil]
 omega
theorem ats_len:∀ a:List Attr,(a.flatMap atS).length≤6 * szL szAt a
 | []=>Nat.zero_le _
 | x :: r=>by
  have h1:=atS_len x
  have h2:=ats_len r
  have e:szL szAt (x :: r)=1+szAt x+szL szAt r:=by simp [szL,sumL];omega
  rw [List.flatMap_cons,List.length_append,e];omega
theorem szL_take {α:Type} (f:α→Nat):∀ (l:List α) (i:Nat),szL f (l.take i)≤szL f l
 | [],_=>by rw [List.take_nil];exact Nat.le_refl _
 | x :: r,0=>Nat.zero_le _
 | x :: r,i+1=>by
  have:=szL_take f r i
  have e:∀ l:List α,szL f (x :: l)=1+f x+szL f l:=fun l=>by simp [szL,sumL];omega
  rw [List.take_succ_cons,e,e];omega
theorem startS_len (m:Str) (a:List Attr):(startS m a).length≤2+m.length+6 * szL szAt a:=by
 have:=ats_len a
 unfold startS
 simp only [List.length_append,List.length_cons,List.length_nil];omega
noncomputable def sp_startS:Spec:=⟨[.st .node],[.rd],true,fun
 | [.agg [.int .i64 k,.int .i64 s,.str m,.str t,.dat ⟨.attr,a⟩,.dat ⟨.node,ks⟩]]=>some (some (szNd (.mk k s m t a ks)≤1048576),.str (startS m a),[])
 | _=>none⟩
@[push_cast] theorem sp_startS_s:sp_startS.ps=[.st .node]∧sp_startS.modes=[.rd]∧sp_startS.pure=true:=⟨rfl,rfl,rfl⟩
@[push_cast] theorem sp_startS_run (k s:Int) (m t:Str) (a:List Attr) (ks:List Node):sp_startS.run [.agg [.int .i64 k,.int .i64 s,.str m,.str t,.dat ⟨.attr,a⟩,.dat ⟨.node,ks⟩]]=some (some (szNd (.mk k s m t a ks)≤1048576),.str (startS m a),[]):=rfl
noncomputable def e_startS2:Env:=mk [(155,sp_escV)] [(5,[],[(true,[0,1,2,3,4,5,6,7,8,9,10,11,12,13,14,15,16,17,18,19],[])])] [] [] none
@[push_cast] theorem e_startS2_e:MkE e_startS2 [(155,sp_escV)] [(5,[],[(true,[0,1,2,3,4,5,6,7,8,9,10,11,12,13,14,15,16,17,18,19],[])])] [] [] none:=⟨rfl,rfl,rfl,rfl,rfl,rfl,rfl⟩
theorem c_startS2:CRow P0 ety0 91 sp_startS:=CRow.of (E:=e_startS2) (mkOk (.cons c_escV (.nil))) func91 rfl rfl rfl (by
 intro args p r outs h hq
 simp only [sp_startS] at h;split at h<;>cases h
 rename_i k s m t a ks
 have hz:=hq _ rfl
 rw [szNd_mk] at hz
 refine Body.intro (rs:=[.tmp 2]) rfl rfl rfl ?_
 apply vc_run 1000 (stop:=false) rfl;simp only [push_cast,simprocAttr]
 have hal:=szL_len szAt a
 refine ⟨by omega,?_⟩
 refine Run.loop [3,4] [1] [0] rfl (fun n vs bs=>∃ i:Nat,vs=[.str ((60 :: m)++(a.take i).flatMap atS),.int .i64 i]∧bs=[[.int .i64 k,.int .i64 s,.str m,.str t,.dat ⟨.attr,a⟩,.dat ⟨.node,ks⟩]]∧i≤a.length∧n=a.length - i) a.length ?_ ?_
 ·simp only [push_cast,simprocAttr]
  exact ⟨0,by simp,by omega,by omega⟩
 rintro n vs bs ⟨i,rfl,rfl,hi,rfl⟩
 simp only [push_cast,simprocAttr]
 apply vc_run 1000 (stop:=false) rfl;simp only [push_cast,simprocAttr]
 have hfl:=ats_len (a.take i)
 have hst:=szL_take szAt a i
 refine ⟨fun h=>?_,fun h=>?_⟩
 ·have hlt:i < a.length:=by have:=of_decide_eq_true h;omega
  have hel:=szL_at1 szAt attrD hlt
  have hev:=escV_len (a.getD i attrD).value
  have htk:a.take (i+1)=a.take i++[a.getD i attrD]:=by
   rw [List.take_succ_eq_append_getElem hlt];simp [List.getD,hlt]
  have hsa:szAt (a.getD i attrD)=(a.getD i attrD).name.length+(a.getD i attrD).value.length:=rfl
  simp only [gd_nat]
  refine ⟨by omega,by omega,by omega,by omega,by omega,by omega,by omega,by omega,by constructor<;>omega,a.length - (i+1),by omega,i+1,?_,by omega,rfl⟩
  rw [htk,List.flatMap_append,List.flatMap_cons,List.flatMap_nil,List.append_nil]
  simp [atS]
 ·have hge:i=a.length:=by have:=of_decide_eq_false h;omega
  subst hge
  rw [List.take_length] at hfl ⊢
  exact ⟨by omega,by simp [startS]⟩)
mutual
def serNd:Node→Bool→Str
 | .mk k s m t a ks,raw=>if k=2 then (if raw=true then t else escT t) else if k=3 then [60,33,45,45]++t++[45,45,62]
  else startS m a++(if s=0∧isVoidS m=true then [] else serNds ks (decide (s=0)&&isRawS m)++([60,47]++m++[62]))
def serNds:List Node→Bool→Str
 | [],_=>[]
 | x :: r,raw=>serNd x raw++serNds r raw
end
theorem serNds_app (raw:Bool) (x:Node):∀ l:List Node,serNds (l++[x]) raw=serNds l raw++serNd x raw
 | []=>by rw [List.nil_append,serNds,serNds,serNds,List.append_nil,List.nil_append]
 | y :: r=>by rw [List.cons_append,serNds,serNds,serNds_app raw x r,List.append_assoc]
mutual
theorem serNd_len:∀ (x:Node) (raw:Bool),(serNd x raw).length≤12 * (1+szNd x)
 | .mk k s m t a ks,raw=>by
  have h1:=escT_len t
  have h2:=startS_len m a
  have h3:=serNds_len ks (decide (s=0)&&isRawS m)
  rw [szNd_mk,← szNds_eq]
  rw [serNd]
  repeat' split
  all_goals first | omega | (simp only [List.length_append,List.length_cons,List.length_nil];omega)
theorem serNds_len:∀ (l:List Node) (raw:Bool),(serNds l raw).length≤12 * szNds l
 | [],_=>Nat.zero_le _
 | x :: r,raw=>by
  have h1:=serNd_len x raw
  have h2:=serNds_len r raw
  rw [serNds,szNds,List.length_append];omega
end
theorem serNd_eq (x:Node) (raw:Bool):serNd x raw=if x.kind=2 then (if raw=true then x.text else escT x.text) else if x.kind=3 then [60,33,45,45]++x.text++[45,45,62]
  else startS x.name x.attrs++(if x.space=0∧isVoidS x.name=true then [] else serNds x.kids (decide (x.space=0)&&isRawS x.name)++([60,47]++x.name++[62])):=by cases x;rw [serNd];rfl
noncomputable def sp_serNds (z:Nat):Spec:=⟨[.sl .node,.sc],[.rd,.rd],true,fun
 | [.dat ⟨.node,l⟩,.bool raw]=>some (some (szNds l < z∧szL szNd l≤1048576),.str (serNds l raw),[])
 | _=>none⟩
@[push_cast] theorem sp_serNds_s (z:Nat):(sp_serNds z).ps=[.sl .node,.sc]∧(sp_serNds z).modes=[.rd,.rd]∧(sp_serNds z).pure=true:=⟨rfl,rfl,rfl⟩
@[push_cast] theorem sp_serNds_run (z:Nat) (l:List Node) (raw:Bool):(sp_serNds z).run [.dat ⟨.node,l⟩,.bool raw]=some (some (szNds l < z∧szL szNd l≤1048576),.str (serNds l raw),[]):=rfl
noncomputable def e_l06Tree_ (z:Nat):Env:=mk [(91,sp_startS),(90,sp_escT),(92,sp_isVoidS),(93,sp_isRawS),(54,(sp_serNds z))] [(8,[],[(true,[0,1,2,3,4,5,6,7,8,9,10,11,12,13,14,15,16,17,18],[])])] [] [] none
@[push_cast] theorem e_l06Tree__e (z:Nat):MkE (e_l06Tree_ z) [(91,sp_startS),(90,sp_escT),(92,sp_isVoidS),(93,sp_isRawS),(54,(sp_serNds z))] [(8,[],[(true,[0,1,2,3,4,5,6,7,8,9,10,11,12,13,14,15,16,17,18],[])])] [] [] none:=⟨rfl,rfl,rfl,rfl,rfl,rfl,rfl⟩
theorem c_l06Tree_ (z:Nat) (h_serNds:CRow P0 ety0 54 (sp_serNds z)):CRow P0 ety0 54 (sp_serNds (z+1)):=CRow.of (E:=(e_l06Tree_ z)) (mkOk (.cons c_startS2 (.cons c_escT (.cons c_isVoidS2 (.cons c_isRawS2 (.cons h_serNds (.nil))))))) func54 rfl rfl rfl (by
 intro args p r outs h hq
 simp only [sp_serNds] at h;split at h<;>cases h
 rename_i l raw
 obtain ⟨hn,hz⟩:=hq _ rfl
 have hl:=szL_len szNd l
 refine Body.intro (rs:=[.tmp 4]) rfl rfl rfl ?_
 apply vc_run 1000 (stop:=false) rfl;simp only [push_cast,simprocAttr]
 refine Run.loop [5,6] [0,1] [] rfl (fun n vs bs=>∃ i:Nat,vs=[.str (serNds (l.take i) raw),.int .i64 i]∧bs=[]∧i≤l.length∧n=l.length - i) l.length ?_ ?_
 ·simp only [push_cast,simprocAttr]
  exact ⟨0,rfl,by omega,by omega⟩
 rintro n vs bs ⟨i,rfl,rfl,hi,rfl⟩
 simp only [push_cast,simprocAttr]
 apply vc_run 1000 (stop:=false) rfl;simp only [push_cast,simprocAttr]
 have htl:=serNds_len (l.take i) raw
 rw [szNds_eq] at htl
 have hst:=szL_take szNd l i
 refine ⟨fun h=>?_,fun h=>?_⟩
 ·have hlt:i < l.length:=by have:=of_decide_eq_true h;omega
  have hel:=szL_at1 szNd nodeD hlt
  have hsz:=szNd_eq (l.getD i nodeD)
  have htk:l.take (i+1)=l.take i++[l.getD i nodeD]:=by
   rw [List.take_succ_eq_append_getElem hlt];simp [List.getD,hlt]
  have hks:=kid_lt hn hlt
  simp only [gd_nat]
  generalize l.getD i nodeD=x at *
  have hx:=serNd_eq x raw
  have hxl:=serNd_len x raw
  have fin:∀ s:Str,serNd x raw=s→∃ j,j < l.length - i∧∃ i1:Nat,[AV.str (serNds (l.take i) raw++s),.int .i64 ((i:Int)+1)]=[.str (serNds (l.take i1) raw),.int .i64 (i1:Int)]∧i1≤l.length∧j=l.length - i1:=fun s hs =>
   ⟨l.length - (i+1),by omega,i+1,by rw [htk,serNds_app,hs];rfl,by omega,rfl⟩
  have i0:i64ok ((i:Int)+1):=by constructor<;>omega
  have he:=escT_len x.text
  have hsl:=startS_len x.name x.attrs
  refine ⟨by omega,fun g=>?_,fun g=>⟨fun g2=>?_,fun g2=>⟨fun g3=>?_,fun g3=>?_⟩⟩⟩
  ·have hk:x.kind=2∧raw=true:=by
    cases h1:decide (x.kind=2)<;>rw [h1] at g
    ·cases g
    ·exact ⟨of_decide_eq_true h1,g⟩
   exact ⟨by omega,i0,fin _ (by rw [hx,if_pos hk.1,if_pos hk.2])⟩
  ·have hk:=of_decide_eq_true g2
   have hr:¬ raw=true:=fun e=>by rw [g2,e] at g;cases g
   exact ⟨by omega,by omega,i0,fin _ (by rw [hx,if_pos hk,if_neg hr])⟩
  ·have hk:=of_decide_eq_true g3
   exact ⟨by omega,by omega,by omega,i0,fin _ (by rw [hx,if_neg (of_decide_eq_false g2),if_pos hk];simp)⟩
  ·have hx2:serNd x raw=startS x.name x.attrs++(if x.space=0∧isVoidS x.name=true then [] else serNds x.kids (decide (x.space=0)&&isRawS x.name)++([60,47]++x.name++[62])):=by
    rw [hx,if_neg (of_decide_eq_false g2),if_neg (of_decide_eq_false g3)]
   refine ⟨by omega,by omega,fun g4=>?_,fun g4=>?_⟩
   ·have hv:x.space=0∧isVoidS x.name=true:=by
     cases h1:decide (x.space=0)<;>rw [h1] at g4
     ·cases g4
     ·exact ⟨of_decide_eq_true h1,g4⟩
    rw [if_pos hv,List.append_nil] at hx2
    exact ⟨i0,fin _ hx2⟩
   ·have hv:¬ (x.space=0∧isVoidS x.name=true):=fun e=>by rw [decide_eq_true e.1,e.2] at g4;cases g4
    rw [if_neg hv] at hx2
    have hbr:(bif decide (x.space=0) then isRawS x.name else false)=(decide (x.space=0)&&isRawS x.name):=by cases decide (x.space=0)<;>rfl
    rw [hbr]
    have hkl:=serNds_len x.kids (decide (x.space=0)&&isRawS x.name)
    rw [szNds_eq] at hkl
    exact ⟨⟨hks,by omega⟩,by omega,by omega,by omega,by omega,i0,fin _ (by rw [hx2];simp)⟩
 ·have hge:i=l.length:=by have:=of_decide_eq_false h;omega
  subst hge
  rw [List.take_length])
end Go.Ab
