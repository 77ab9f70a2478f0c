import Derived.Test.YtjnachnjfdgpgaaGreatDoorFnBd
set_option linter.all false
set_option maxRecDepth 20000
set_option maxHeartbeats 1000000
namespace Go.Ab
open Go Go.Proofs.Tryz
open Go.Lib
def runR (t:Str):Nat→Nat→List Node→Int→List Node × Int × Int
 | 0,_,R,c=>(R,c,0)
 | f+1,i,R,c=>if i < t.length then
   if (takeR R c (nextS t i (rawI (stkR R))) (rawI (stkR R))).2.2≠0 then takeR R c (nextS t i (rawI (stkR R))) (rawI (stkR R))
   else runR t f (i+(nextS t i (rawI (stkR R))).len.toNat) (takeR R c (nextS t i (rawI (stkR R))) (rawI (stkR R))).1 (takeR R c (nextS t i (rawI (stkR R))) (rawI (stkR R))).2.1
  else (R,c,0)
def R0:List Node:=[nodeD]
def buildR (t:Str):List Node × Int :=
 if (runR t (t.length+1) 0 R0 0).2.2≠0 then ([],(runR t (t.length+1) 0 R0 0).2.2)
 else (((popsR ((runR t (t.length+1) 0 R0 0).1.length - 1) (runR t (t.length+1) 0 R0 0).1).headD nodeD).kids,0)
def buildP (t:Str):List Node × Int:=if 4096 < t.length then ([],8) else buildR t
theorem rawI_len (st:List Opn):(rawI st).length≤12:=by
 unfold rawI
 split
 ·rename_i h
  have key:∀ x∈rawS,x.length≤12:=by decide
  exact key _ (by simpa [isRawS,hasS] using h.2.2)
 ·exact Nat.zero_le _
theorem rawI_ne {R:List Node} (hR:R≠[]) (h:rawI (stkR R)≠[]):2≤R.length:=by
 have hs:=stkL hR
 unfold rawI at h
 split at h
 ·omega
 ·exact absurd rfl h
theorem inv_put {R:List Node} {c:Int} {x:Node} (h:InvR R c) (h0:(putR R c x).2.2=0):putR R c x=(addR x R,c+1,0)∧InvR (addR x R) (c+1)∧R.length≤10:=by
 obtain ⟨h1,h2,h3,h4,h5,h6⟩:=h
 have hp:¬ R.length=11∧¬ 60 < c+1∧¬ 120 < x.text.length:=by
  unfold putR at h0
  by_cases g1:R.length=11
  ·rw [if_pos g1] at h0;simp at h0
  rw [if_neg g1] at h0
  by_cases g2:60 < c+1
  ·rw [if_pos g2] at h0;simp at h0
  rw [if_neg g2] at h0
  by_cases g3:120 < x.text.length
  ·rw [if_pos g3] at h0;simp at h0
  exact ⟨g1,g2,g3⟩
 obtain ⟨g1,g2,g3⟩:=hp
 refine ⟨by unfold putR;rw [if_neg g1,if_neg g2,if_neg g3],?_,by omega⟩
 obtain ⟨y,r,rfl⟩:=R_cons h1
 rw [addR]
 refine ⟨by simp,h2,by omega,by omega,?_,fun z hz=>?_⟩
 ·simp only [sumL_cons,setKids_kids,List.length_append,List.length_cons,List.length_nil] at h5 ⊢
  omega
 ·cases hz with
  | head =>
   refine ⟨(h6 y (by simp)).1,fun k hk=>?_⟩
   rw [setKids_kids,List.mem_append,List.mem_singleton] at hk
   rcases hk with hk | rfl
   ·exact (h6 y (by simp)).2 k hk
   ·omega
  | tail _ hz=>exact h6 z (List.mem_cons_of_mem _ hz)
theorem inv_words {R:List Node} {c:Int} {t:Str} (h:InvR R c) (h0:(wordsR R c t).2.2=0):InvR (wordsR R c t).1 (wordsR R c t).2.1:=by
 unfold wordsR at h0 ⊢
 by_cases g1:isTx R=true
 ·rw [if_pos g1] at h0 ⊢
  by_cases g2:120 < lastLen R+t.length
  ·rw [if_pos g2] at h0;simp at h0
  rw [if_neg g2] at h0 ⊢
  obtain ⟨h1,h2,h3,h4,h5,h6⟩:=h
  obtain ⟨y,r,rfl⟩:=R_cons h1
  unfold lastLen at g2
  simp only at g2
  simp only [joinR]
  refine ⟨by simp,h2,h3,h4,?_,fun z hz=>?_⟩
  ·simp only [sumL_cons,setKids_kids,List.length_set,List.length_cons] at h5 ⊢
   omega
  ·cases hz with
   | head =>
    refine ⟨(h6 y (by simp)).1,fun k hk=>?_⟩
    rw [setKids_kids] at hk
    rcases List.mem_or_eq_of_mem_set hk with hk | rfl
    ·exact (h6 y (by simp)).2 k hk
    ·show ((lastN y.kids).text++t).length≤120
     rw [List.length_append];omega
   | tail _ hz=>exact h6 z (List.mem_cons_of_mem _ hz)
 ·rw [if_neg g1] at h0 ⊢
  obtain ⟨e,h2,_⟩:=inv_put h h0
  rw [e];exact h2
theorem inv_opens {R:List Node} {c:Int} {tk:Tokn} (h:InvR R c) (h0:(opensR R c tk).2.2=0):InvR (opensR R c tk).1 (opensR R c tk).2.1:=by
 have hs:=stkL h.1
 have hlt:(stkR R).length - stayN (stkR R) tk.name < R.length:=by omega
 have hq:=inv_pops hlt h
 unfold opensR at h0 ⊢
 simp only at h0 ⊢
 generalize hx:Node.mk 1 (spaceN (stkR R) tk.name (stayN (stkR R) tk.name)) tk.name [] tk.attrs []=x at h0 ⊢
 generalize popsR ((stkR R).length - stayN (stkR R) tk.name) R=Q at *
 by_cases g1:(putR Q c x).2.2≠0
 ·rw [if_pos g1] at h0;exact absurd h0 g1
 rw [if_neg g1] at h0 ⊢
 obtain ⟨e,h2,h3⟩:=inv_put hq (by simpa using g1)
 by_cases g2:spaceN (stkR R) tk.name (stayN (stkR R) tk.name)=0∧isVoidS tk.name=true∨spaceN (stkR R) tk.name (stayN (stkR R) tk.name)≠0∧tk.self=true
 ·rw [if_pos g2,e];exact h2
 rw [if_neg g2]
 obtain ⟨a1,a2,a3,a4,a5,a6⟩:=hq
 obtain ⟨b1,b2,b3,b4,b5,b6⟩:=h2
 refine ⟨by simp,by simp;omega,b3,b4,?_,fun z hz=>?_⟩
 ·have hk:x.kids=[]:=by rw [← hx];rfl
  simp only [sumL_cons,hk,List.length_cons,List.length_nil] at a5 ⊢
  omega
 ·cases hz with
  | head=>rw [← hx];exact ⟨rfl,fun k hk=>by cases hk⟩
  | tail _ hz=>exact a6 z hz
theorem inv_take {R:List Node} {c:Int} {tk:Tokn} {raw:Str} (h:InvR R c) (hr:raw≠[]→2≤R.length) (h0:(takeR R c tk raw).2.2=0):InvR (takeR R c tk raw).1 (takeR R c tk raw).2.1:=by
 unfold takeR at h0 ⊢
 by_cases g1:tk.kind=1
 ·rw [if_pos g1] at h0 ⊢;exact inv_words h h0
 rw [if_neg g1] at h0 ⊢
 by_cases g2:raw≠[]
 ·rw [if_pos g2]
  have:=hr g2
  match R,this with
  | x :: y :: r,_=>exact inv_pop h
 rw [if_neg g2] at h0 ⊢
 by_cases g3:tk.kind=4
 ·rw [if_pos g3] at h0 ⊢
  obtain ⟨e,h2,_⟩:=inv_put h h0
  rw [e];exact h2
 rw [if_neg g3] at h0 ⊢
 by_cases g4:tk.kind=2
 ·rw [if_pos g4] at h0 ⊢;exact inv_opens h h0
 rw [if_neg g4] at h0 ⊢
 by_cases g5:tk.kind=3
 ·rw [if_pos g5]
  unfold closesR
  have hs:=stkL h.1
  split
  ·exact h
  ·exact inv_pops (by omega) h
 rw [if_neg g5];exact h
theorem opT_le {t:Str}:∀ (f i:Nat) (s:Bool) (l:List Attr) (q:Nat × Bool × List Attr),opS t f i s l=some q→i≤q.1∧q.1 < t.length
 | 0,_,_,_,_,h=>by cases h
 | f+1,i,s,l,q,h=>by
  rw [opS] at h
  by_cases hi:i < t.length
  ·rw [if_pos hi] at h
   by_cases h1:t.getD i 0=62
   ·rw [if_pos h1] at h;cases h;exact ⟨Nat.le_refl _,hi⟩
   rw [if_neg h1] at h
   split at h
   ·have:=opT_le f _ _ _ _ h;omega
   ·have h2:=opT_le f _ _ _ _ h
    have:=(attr_rel hi).2.1
    omega
  ·rw [if_neg hi] at h;cases h
theorem open_len {t:Str} {i:Nat} (hi:i+1 < t.length):1≤(openS t i).len∧(i:Int)+(openS t i).len≤t.length:=by
 unfold openS
 have h1:=scanU_ge tagStop t (i+1)
 cases h:opT t (scanU tagStop t (i+1)) false [] with
 | none=>simp only [noTok];omega
 | some q =>
  have:=opT_le _ _ _ _ _ h
  simp only
  split
  ·simp only;omega
  ·simp only [noTok];omega
theorem close_len {t:Str} {i:Nat} (hi:i+2 < t.length):1≤(closeS t i).len∧(i:Int)+(closeS t i).len≤t.length:=by
 unfold closeS
 have h1:=scanU_ge tagStop t (i+2)
 cases h:findS t [62] (scanU tagStop t (i+2)) with
 | none=>simp only [noTok];omega
 | some k =>
  have h2:=firstP_some h
  simp only
  split
  ·simp only;omega
  ·simp only [noTok];omega
theorem comm_len {t w:Str} {i b:Nat} (hi:i < b) (hb:b≤t.length) (hw:w≠[]):1≤(commS t i b w).len∧(i:Int)+(commS t i b w).len≤t.length:=by
 unfold commS endT
 cases h:findS t w b with
 | none=>simp only;omega
 | some k =>
  have h2:=firstP_some h
  have h3:=occS_room h2.2.2 hw
  simp only;omega
theorem word_len {t:Str} {i:Nat} (hi:i < t.length):1≤(wordS t i).len∧(i:Int)+(wordS t i).len≤t.length:=by
 unfold wordS
 have h1:=scanU_ge (isB 60) t (i+1)
 have h2:=scanU_le (isB 60) (t:=t) (i:=i+1) (by omega)
 simp only;omega
theorem next_len {t raw:Str} {i:Nat} (hi:i < t.length):1≤(nextS t i raw).len∧(i:Int)+(nextS t i raw).len≤t.length:=by
 unfold nextS
 split
 ·rename_i h
  have:=rawEnd_le (raw:=raw) (Nat.le_of_lt hi)
  simp only;omega
 split
 ·rename_i h2
  split
  ·exact open_len h2.2
  split
  ·rename_i h3;exact close_len h3.2.1
  split
  ·rename_i h4
   have:=(occS_room h4 (by simp)).1
   simp only [List.length_cons,List.length_nil] at this
   exact comm_len (by omega) (by omega) (by simp)
  split
  ·exact comm_len (by omega) (by omega) (by simp)
  ·exact word_len hi
 ·exact word_len hi
theorem next_text (t raw:Str) (i:Nat):(nextS t i raw).text.length≤t.length:=by
 have hu:∀ i j,(unS (sliceS t i j)).length≤t.length:=fun i j=>Nat.le_trans (unS_len _ _ (Nat.le_refl _)) (slice_le t i j)
 unfold nextS
 split
 ·exact slice_le _ _ _
 split
 ·split
  ·rw [openS_text];exact Nat.zero_le _
  split
  ·rw [(closeS_text t i).1];exact Nat.zero_le _
  split
  ·exact slice_le _ _ _
  split
  ·exact slice_le _ _ _
  ·exact hu _ _
 ·exact hu _ _
theorem inv_R0:InvR R0 0:=⟨by simp [R0],by simp [R0],by omega,by omega,by simp [R0,sumL,Node.kids,nodeD],fun x hx=>by
 simp only [R0,List.mem_singleton] at hx
 subst hx
 exact ⟨rfl,fun k hk=>by cases hk⟩⟩
noncomputable def sp_build:Spec:=⟨[.sc],[.rd],false,fun
 | [.str t]=>some (some (t.length≤1073741824),.tup [.own true ⟨.node,(buildP t).1⟩,.int .i64 (buildP t).2],[])
 | _=>none⟩
@[push_cast] theorem sp_build_s:sp_build.ps=[.sc]∧sp_build.modes=[.rd]∧sp_build.pure=false:=⟨rfl,rfl,rfl⟩
@[push_cast] theorem sp_build_run (t:Str):sp_build.run [.str t]=some (some (t.length≤1073741824),.tup [.own true ⟨.node,(buildP t).1⟩,.int .i64 (buildP t).2],[]):=rfl
noncomputable def e_build:Env:=mk [(72,sp_rawI),(73,sp_next),(74,sp_takeI),(75,sp_endI)] [] [(2000000,[.nil .node 2]),(5,[.nib .opn 4 0]),(2,[.drp 47])] [] none
@[push_cast] theorem e_build_e:MkE e_build [(72,sp_rawI),(73,sp_next),(74,sp_takeI),(75,sp_endI)] [] [(2000000,[.nil .node 2]),(5,[.nib .opn 4 0]),(2,[.drp 47])] [] none:=⟨rfl,rfl,rfl,rfl,rfl,rfl,rfl⟩
theorem c_build:CRow P0 ety0 33 sp_build:=CRow.of (E:=e_build) (mkOk (.cons c_rawI (.cons c_next (.cons c_takeI (.cons c_endI (.nil)))))) func33 rfl rfl rfl (by
 intro args p r outs h hq
 simp only [sp_build] at h;split at h<;>cases h
 rename_i t
 have hz:=hq _ rfl
 refine Body.intro (rs:=[.tmp 2,.tmp 3]) rfl rfl rfl ?_
 apply vc_run 1000 (stop:=false) rfl;simp only [push_cast,simprocAttr]
 unfold buildP
 refine ⟨fun h=>by rw [if_pos (by have:=of_decide_eq_true h;omega)],fun h=>?_⟩
 have hl:¬ 4096 < t.length:=by have:=of_decide_eq_false h;omega
 rw [if_neg hl]
 refine Run.loop [2,3,5] [0,4] [1] rfl (fun n vs bs=>∃ (i f:Nat) (R:List Node) (c:Int),vs=[.nilS,.int .i64 0,.int .i64 i]∧bs=[[.own true ⟨.opn,stkR R⟩,.own true ⟨.nodes,(lsR R).reverse⟩,.int .i64 c]]∧i≤t.length∧InvR R c∧t.length - i < f∧runR t (t.length+1) 0 R0 0=runR t f i R c∧n=t.length - i) t.length ?_ ?_
 ·simp only [push_cast,simprocAttr]
  exact ⟨0,t.length+1,R0,0,rfl,rfl,Nat.zero_le _,inv_R0,by omega,rfl,by omega⟩
 rintro n vs bs ⟨i,f,R,c,rfl,rfl,hi,hI,hf,hrun,rfl⟩
 obtain ⟨f,rfl⟩:∃ g,f=g+1:=⟨f - 1,by omega⟩
 have hst:runR t (f+1) i R c=if i < t.length then
   if (takeR R c (nextS t i (rawI (stkR R))) (rawI (stkR R))).2.2≠0 then takeR R c (nextS t i (rawI (stkR R))) (rawI (stkR R))
   else runR t f (i+(nextS t i (rawI (stkR R))).len.toNat) (takeR R c (nextS t i (rawI (stkR R))) (rawI (stkR R))).1 (takeR R c (nextS t i (rawI (stkR R))) (rawI (stkR R))).2.1
  else (R,c,0):=rfl
 rw [hst] at hrun
 clear hst
 simp only [push_cast,simprocAttr]
 apply vc_run 1000 (stop:=false) rfl;simp only [push_cast,simprocAttr]
 simp only [Int.toNat_natCast]
 have hrl:=rawI_len (stkR R)
 have hrn:=rawI_ne hI.1
 generalize rawI (stkR R)=raw at *
 have htx:=next_text t raw i
 have hln:=fun h=>next_len (t:=t) (raw:=raw) (i:=i) h
 have ht:takeI ⟨stkR R,(lsR R).reverse,c⟩ ⟨(nextS t i raw).kind,(nextS t i raw).pos,(nextS t i raw).len,(nextS t i raw).name,(nextS t i raw).text,(nextS t i raw).attrs,(nextS t i raw).self⟩ raw=ofR (takeR R c (nextS t i raw) raw):=takeR_asI hI.1 c (nextS t i raw) raw hrn
 have hit:=fun h0=>inv_take (tk:=nextS t i raw) (raw:=raw) hI hrn h0
 obtain ⟨i1,i2,i3⟩:=inv_len hI
 simp only [ht]
 generalize nextS t i raw=T at *
 generalize takeR R c T raw=U at *
 obtain ⟨R',c',code⟩:=U
 refine ⟨fun h=>?_,fun h=>?_⟩
 ·have hlt:i < t.length:=by have:=of_decide_eq_true h;omega
  obtain ⟨l1,l2⟩:=hln hlt
  rw [if_pos hlt] at hrun
  refine ⟨by omega,⟨by omega,by omega,by omega,by omega⟩,⟨R,hI,rfl,hrn,by omega⟩,fun g=>?_,fun g=>?_⟩
  ·have g:code≠0:=by simpa [ofR] using g
   rw [if_pos g] at hrun
   unfold buildR
   rw [hrun,if_pos g]
  ·have g:code=0:=by simpa [ofR] using g
   rw [if_neg (by simpa using g)] at hrun
   refine ⟨by constructor<;>omega,_,?_,i+T.len.toNat,f,R',c',by rw [show (i:Int)+T.len=((i+T.len.toNat:Nat):Int) by omega],rfl,by omega,hit g,by omega,hrun,rfl⟩
   omega
 ·have hge:¬ i < t.length:=by have:=of_decide_eq_false h;omega
  rw [if_neg hge] at hrun
  have hB:buildR t=(((popsR (R.length - 1) R).headD nodeD).kids,0):=by
   unfold buildR
   rw [hrun,if_neg (by simp)]
  rw [hB]
  refine Run.loop [] [4] [1] rfl (fun n vs bs=>∃ j:Nat,vs=[]∧bs=[[.own true ⟨.opn,stkR (popsR j R)⟩,.own true ⟨.nodes,(lsR (popsR j R)).reverse⟩,.int .i64 c]]∧j < R.length∧n=R.length - j) R.length ?_ ?_
  ·simp only [push_cast,simprocAttr]
   exact ⟨0,rfl,by omega,by omega⟩
  rintro n vs bs ⟨j,rfl,rfl,hjl,rfl⟩
  simp only [push_cast,simprocAttr]
  apply vc_run 1000 (stop:=false) rfl;simp only [push_cast,simprocAttr]
  have hIj:=inv_pops hjl hI
  have hpl:=popsR_len j R hjl
  obtain ⟨q1,q2,q3⟩:=inv_len hIj
  refine ⟨fun h=>?_,fun h=>?_⟩
  ·have g2:0 < (stkR (popsR j R)).length:=by have:=of_decide_eq_true h;omega
   refine ⟨end_pre hIj (by omega),R.length - (j+1),by omega,j+1,?_,by omega,rfl⟩
   have e:endI ⟨stkR (popsR j R),(lsR (popsR j R)).reverse,c⟩=asI (popsR (j+1) R) c:=by
    have:=endsI_asI (j+1) R c (by omega)
    rw [endsI,endsI_asI j R c hjl] at this
    exact this
   rw [e];rfl
  ·have g2:¬ 0 < (stkR (popsR j R)).length:=by have:=of_decide_eq_false h;omega
   have hj:j=R.length - 1:=by omega
   subst hj
   refine ⟨by omega,?_⟩
   match hp:popsR (R.length - 1) R,hpl with
   | [],hpl=>simp at hpl;omega
   | [z],_=>rfl
   | x :: y :: r,hpl=>simp at hpl;omega)
end Go.Ab
