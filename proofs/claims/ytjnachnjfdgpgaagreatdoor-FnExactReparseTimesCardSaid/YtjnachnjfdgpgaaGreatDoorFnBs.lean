import Derived.Test.YtjnachnjfdgpgaaGreatDoorFnBe
import Derived.Test.YtjnachnjfdgpgaaGreatDoorFnTp
set_option linter.all false
set_option maxRecDepth 20000
set_option maxHeartbeats 1000000
namespace Go.Ab
open Go Go.Proofs.Tryz
open Go.Lib
def putQ (R:List Node) (code:Int) (x:Node):List Node × Int :=
 if x.kind=2∧isTx R=true then if 120 < lastLen R+x.text.length then (R,8) else (joinR x.text R,code)
 else if 120 < x.text.length then (R,8) else (addR x R,code)
def wordsQ (R:List Node) (c k:Int) (t:Str):List Node × Int × Int :=
 if k=3∨isTx R=false then if 10 < R.length then (R,c,11) else if 60 < c+1 then (R,c+1,6) else ((putQ R 0 (.mk k 0 [] t [] [])).1,c+1,(putQ R 0 (.mk k 0 [] t [] [])).2)
 else ((putQ R 0 (.mk k 0 [] t [] [])).1,c,(putQ R 0 (.mk k 0 [] t [] [])).2)
def openQ (R:List Node) (c:Int) (tk:Tokn):List Node × Int × Int :=
 let n:=stayN (stkR R) tk.name
 let sp:=spaceN (stkR R) tk.name n
 let Q:=popsR ((stkR R).length - n) R
 let x:Node:=.mk 1 sp tk.name [] tk.attrs []
 if 10 < Q.length then (Q,c,11) else if 60 < c+1 then (Q,c+1,6)
 else if sp=0∧isVoidS tk.name=true∨sp≠0∧tk.self=true then ((putQ Q 0 x).1,c+1,(putQ Q 0 x).2)
 else (x :: Q,c+1,0)
noncomputable def sp_impl2:Spec:=⟨[.sl .opn,.sc],[.rd,.rd],true,fun
 | [.dat ⟨.opn,st⟩,.str m]=>some (some (st.length≤1073741824),.int .i64 ((st.length:Int) - (stayN st m:Nat)),[])
 | _=>none⟩
@[push_cast] theorem sp_impl2_s:sp_impl2.ps=[.sl .opn,.sc]∧sp_impl2.modes=[.rd,.rd]∧sp_impl2.pure=true:=⟨rfl,rfl,rfl⟩
@[push_cast] theorem sp_impl2_run (st:List Opn) (m:Str):sp_impl2.run [.dat ⟨.opn,st⟩,.str m]=some (some (st.length≤1073741824),.int .i64 ((st.length:Int) - (stayN st m:Nat)),[]):=rfl
@[push_cast] theorem hasS_any (m:Str):sp_hasS.run [.any,.str m]=none:=rfl
theorem brk_swap (a b c:Bool):(bif bif a then b else false then c else false)=(bif bif c then a else false then b else false):=by cases a<;>cases b<;>cases c<;>rfl
theorem opn_bif2 (st:List Opn) (n:Nat) (m:Str):(bif bif decide (0 < (n:Int)) then decide ((gd st opnD ((n:Int) - 1)).space=0) else false then decide ((gd st opnD ((n:Int) - 1)).name=m) else false)=isOpn st n m:=by
 rw [← opn_bif]
 cases decide (0 < (n:Int))<;>cases decide ((gd st opnD ((n:Int) - 1)).space=0)<;>cases decide ((gd st opnD ((n:Int) - 1)).name=m)<;>rfl
theorem lev2 {st:List Opn} {m:Str} (hz:st.length≤1073741824) {N:Nat} (hN:N≤st.length) (hs:stayN st m=liN st m N) :
  (decide (0 < (N:Int))=true→i64ok ((N:Int) - 1))∧(decide (0 < (N:Int))=true→0≤(N:Int) - 1∧(N:Int) - 1 < (st.length:Nat)) ∧
  ((bif decide (0 < (N:Int)) then decide ((gd st opnD ((N:Int) - 1)).space=0) else false)=true→i64ok ((N:Int) - 1)) ∧
  ((bif decide (0 < (N:Int)) then decide ((gd st opnD ((N:Int) - 1)).space=0) else false)=true→0≤(N:Int) - 1∧(N:Int) - 1 < (st.length:Nat)) ∧
  ((bif bif bif decide (0 < (N:Int)) then decide ((gd st opnD ((N:Int) - 1)).space=0) else false then decide ((gd st opnD ((N:Int) - 1)).name=[108,105]) else false then decide (m=[108,105]) else false)=true →
    i64ok ((N:Int) - 1)∧i64ok ((st.length:Int) - ((N:Int) - 1))∧AV.int .i64 ((st.length:Int) - ((N:Int) - 1))=.int .i64 ((st.length:Int) - (stayN st m:Nat))) ∧
  ((bif bif bif decide (0 < (N:Int)) then decide ((gd st opnD ((N:Int) - 1)).space=0) else false then decide ((gd st opnD ((N:Int) - 1)).name=[108,105]) else false then decide (m=[108,105]) else false)=false →
    i64ok ((st.length:Int) - (N:Int))∧AV.int .i64 ((st.length:Int) - (N:Int))=.int .i64 ((st.length:Int) - (stayN st m:Nat))):=by
 have band:∀ a b:Bool,(bif a then b else false)=(a&&b):=fun a b=>by cases a<;>rfl
 rw [opn_bif2]
 have hd:∀ {x:Bool},(bif decide (0 < (N:Int)) then x else false)=true→0 < N:=fun {x} h=>by
  cases hd:decide (0 < (N:Int)) with
  | false=>rw [hd] at h;cases h
  | true=>have:=of_decide_eq_true hd;omega
 refine ⟨fun h=>by have:=of_decide_eq_true h;constructor<;>omega,fun h=>by have:=of_decide_eq_true h;omega,fun h=>by have:=hd h;constructor<;>omega,fun h=>by have:=hd h;omega,fun h=>?_,fun h=>?_⟩
 ·rw [band] at h
  have h0:0 < N:=by
   have:=(Bool.and_eq_true _ _ ▸ h:_∧_).1
   unfold isOpn at this
   exact of_decide_eq_true (Bool.and_eq_true _ _ ▸ this:_∧_).1
  have:stayN st m=N - 1:=by rw [hs];unfold liN;rw [if_pos h]
  refine ⟨by constructor<;>omega,by constructor<;>omega,?_⟩
  rw [this,show (N:Int) - 1=((N - 1:Nat):Int) by omega]
 ·rw [band] at h
  have:stayN st m=N:=by rw [hs];unfold liN;rw [if_neg (by rw [h];simp)]
  exact ⟨by constructor<;>omega,by rw [this]⟩
noncomputable def e_impl2:Env:=mk [(191,sp_isOutS),(89,sp_hasS)] [] [] [] none
@[push_cast] theorem e_impl2_e:MkE e_impl2 [(191,sp_isOutS),(89,sp_hasS)] [] [] [] none:=⟨rfl,rfl,rfl,rfl,rfl,rfl,rfl⟩
theorem c_impl2:CRow P0 ety0 122 sp_impl2:=CRow.of (E:=e_impl2) (mkOk (.cons c_isOutS2 (.cons c_hasS2 (.nil)))) func122 rfl rfl rfl (by
 intro args p r outs h hq
 simp only [sp_impl2] at h;split at h<;>cases h
 rename_i st m
 have hz:=hq _ rfl
 refine Body.intro (rs:=[.tmp 4]) rfl rfl rfl ?_
 apply vc_run 1000 (stop:=false) rfl;simp only [push_cast,simprocAttr]
 refine Run.loop [6] [0,1,5] [] rfl (fun n vs bs=>∃ k:Nat,vs=[.int .i64 k]∧bs=[]∧k≤st.length∧brkN st (isOutS m) st.length=brkN st (isOutS m) k∧n=k) st.length ?_ ?_
 ·simp only [push_cast,simprocAttr]
  exact ⟨st.length,rfl,Nat.le_refl _,rfl,rfl⟩
 rintro n vs bs ⟨k,rfl,rfl,hk,hb,rfl⟩
 simp only [push_cast,simprocAttr]
 apply vc_run 1000 (stop:=false) rfl;simp only [push_cast,simprocAttr]
 rw [brk_swap]
 refine ⟨fun h=>by have:=of_decide_eq_true h;constructor<;>omega,fun h=>by have:=of_decide_eq_true h;omega,fun hy=>?_,fun hn=>?_⟩
 ·obtain ⟨h0,h1⟩:=brk_go hy
  exact ⟨by constructor<;>omega,n - 1,by omega,n - 1,by rw [show (n:Int) - 1=((n - 1:Nat):Int) by omega],by omega,by rw [hb,h1],rfl⟩
 have hbn:=brk_no hn
 rw [hbn] at hb
 clear hn hbn
 have hs:stayN st m=liN st m (pN st m n):=by unfold stayN;rw [hb]
 have hd:∀ {x:Bool},(bif decide (0 < (n:Int)) then x else false)=true→0 < n:=fun {x} h=>by
  cases hd:decide (0 < (n:Int)) with
  | false=>rw [hd] at h;cases h
  | true=>have:=of_decide_eq_true hd;omega
 have hes:hasS [[112],[100,105,118],[117,108],[116,97,98,108,101],[104,49]] m=hasS endsL m:=rfl
 refine ⟨fun h=>by have:=of_decide_eq_true h;constructor<;>omega,fun h=>by have:=of_decide_eq_true h;omega,fun h=>?_,fun hsp=>?_⟩
 ·have h0:=hd h
  rw [decide_eq_true (show 0 < (n:Int) by omega)] at h
  have hno:∀ w,isOpn st n w=false:=fun w=>by
   rw [← opn_bif2,decide_eq_true (show 0 < (n:Int) by omega)]
   cases hd:decide ((gd st opnD ((n:Int) - 1)).space=0) with
   | false=>rfl
   | true=>rw [hd] at h;cases h
  have:stayN st m=n:=by
   rw [hs]
   have hp:pN st m n=n:=by unfold pN;rw [if_neg (by rw [hno];simp)]
   rw [hp];unfold liN;rw [if_neg (by rw [hno];simp)]
  exact ⟨by constructor<;>omega,by rw [this]⟩
 have hP:(bif decide (0 < (n:Int)) then decide ((gd st opnD ((n:Int) - 1)).name=[112]) else false)=isOpn st n [112]:=by
  rw [← opn_bif2]
  revert hsp
  cases decide (0 < (n:Int))<;>cases decide ((gd st opnD ((n:Int) - 1)).space=0)<;>cases decide ((gd st opnD ((n:Int) - 1)).name=[112])<;>simp
 have bt:∀ b:Bool,(b == true)=b:=fun b=>by cases b<;>rfl
 have band:∀ a b:Bool,(bif a then b else false)=(a&&b):=fun a b=>by cases a<;>rfl
 simp only [bt,hP,hes]
 refine ⟨fun h=>by have:=of_decide_eq_true h;constructor<;>omega,fun h=>by have:=of_decide_eq_true h;omega,fun hy=>⟨fun h=>?_,fun h=>?_⟩,fun hn=>⟨fun h=>?_,fun _=>⟨hn,fun h=>h.elim,?_⟩⟩⟩
 ·have h0:0 < n:=by unfold isOpn at hy;exact of_decide_eq_true (Bool.and_eq_true _ _ ▸ hy:_∧_).1
  have hp:pN st m n=n - 1:=by unfold pN;rw [if_pos (by rw [← band];exact h)]
  rw [hp] at hs
  have e1:(n:Int) - 1=((n - 1:Nat):Int):=by omega
  simp only [e1]
  exact ⟨by constructor<;>omega,lev2 hz (by omega) hs⟩
 ·have hp:pN st m n=n:=by unfold pN;rw [if_neg (by rw [← band,h];simp)]
  rw [hp] at hs
  exact lev2 hz hk hs
 ·rw [hn] at h;cases h
 ·have hp:pN st m n=n:=by unfold pN;rw [if_neg (by rw [hn];simp)]
  rw [hp] at hs
  exact lev2 hz hk hs)
noncomputable def sp_rawQ:Spec:=⟨[.sc],[.io],false,fun
 | [.pb [.own true ⟨.opn,st⟩,.own true ⟨.node,nd⟩,.int .i64 c,.int .i64 e]]=>some (some (st.length≤1073741824),.str (rawI st),[.pb [.own true ⟨.opn,st⟩,.own true ⟨.node,nd⟩,.int .i64 c,.int .i64 e]])
 | _=>none⟩
@[push_cast] theorem sp_rawQ_s:sp_rawQ.ps=[.sc]∧sp_rawQ.modes=[.io]∧sp_rawQ.pure=false:=⟨rfl,rfl,rfl⟩
@[push_cast] theorem sp_rawQ_run (st:List Opn) (nd:List Node) (c e:Int):sp_rawQ.run [.pb [.own true ⟨.opn,st⟩,.own true ⟨.node,nd⟩,.int .i64 c,.int .i64 e]]=some (some (st.length≤1073741824),.str (rawI st),[.pb [.own true ⟨.opn,st⟩,.own true ⟨.node,nd⟩,.int .i64 c,.int .i64 e]]):=rfl
noncomputable def e_rawQ:Env:=mk [(93,sp_isRawS)] [] [] [] none
@[push_cast] theorem e_rawQ_e:MkE e_rawQ [(93,sp_isRawS)] [] [] [] none:=⟨rfl,rfl,rfl,rfl,rfl,rfl,rfl⟩
theorem c_rawQ:CRow P0 ety0 63 sp_rawQ:=CRow.of (E:=e_rawQ) (mkOk (.cons c_isRawS2 (.nil))) func63 rfl rfl rfl (by
 intro args p r outs h hq
 simp only [sp_rawQ] at h;split at h<;>cases h
 rename_i st nd c e
 have hz:=hq _ rfl
 refine Body.intro (rs:=[.tmp 2]) rfl rfl rfl ?_
 apply vc_run 1000 (stop:=false) rfl;simp only [push_cast,simprocAttr]
 unfold rawI
 cases hn:st.length with
 | zero =>
  refine ⟨fun h=>(by cases h),fun h=>(by cases h),fun h=>(by cases h),fun h=>(by cases h),fun h=>(by cases h),fun h=>?_⟩
  rw [if_neg (by omega)]
 | succ p =>
  have e:((p+1:Nat):Int) - 1=(p:Int):=by omega
  have d0:decide ((0:Int) < ((p+1:Nat):Int))=true:=decide_eq_true (by omega)
  simp only [e,gd_nat,d0,Nat.add_sub_cancel,cond_true]
  refine ⟨fun _=>by constructor<;>omega,fun _=>by omega,fun _=>by constructor<;>omega,fun _=>by omega,fun h=>⟨by constructor<;>omega,by omega,?_⟩,fun h=>?_⟩
  ·cases hd:decide ((st.getD p opnD).space=0) with
   | false=>rw [hd] at h;cases h
   | true=>rw [hd] at h;rw [if_pos ⟨by omega,of_decide_eq_true hd,h⟩]
  ·rw [if_neg]
   rintro ⟨_,h1,h2⟩
   rw [decide_eq_true h1,h2] at h
   cases h)
noncomputable def sp_moreQ:Spec:=⟨[.sc],[.io],false,fun
 | [.pb [.own true ⟨.opn,st⟩,.own true ⟨.node,nd⟩,.int .i64 c,.int .i64 e]]=>some (some (0≤c∧c≤1000),.tup [],[.pb [.own true ⟨.opn,st⟩,.own true ⟨.node,nd⟩,.int .i64 (c+1),.int .i64 (if 60 < c+1 then 6 else e)]])
 | _=>none⟩
@[push_cast] theorem sp_moreQ_s:sp_moreQ.ps=[.sc]∧sp_moreQ.modes=[.io]∧sp_moreQ.pure=false:=⟨rfl,rfl,rfl⟩
@[push_cast] theorem sp_moreQ_run (st:List Opn) (nd:List Node) (c e:Int):sp_moreQ.run [.pb [.own true ⟨.opn,st⟩,.own true ⟨.node,nd⟩,.int .i64 c,.int .i64 e]]=some (some (0≤c∧c≤1000),.tup [],[.pb [.own true ⟨.opn,st⟩,.own true ⟨.node,nd⟩,.int .i64 (c+1),.int .i64 (if 60 < c+1 then 6 else e)]]):=rfl
noncomputable def e_moreQ:Env:=mk [] [] [] [] none
@[push_cast] theorem e_moreQ_e:MkE e_moreQ [] [] [] [] none:=⟨rfl,rfl,rfl,rfl,rfl,rfl,rfl⟩
theorem c_moreQ:CRow P0 ety0 120 sp_moreQ:=CRow.of (E:=e_moreQ) (mkOk (.nil)) func120 rfl rfl rfl (by
 intro args p r outs h hq
 simp only [sp_moreQ] at h;split at h<;>cases h
 rename_i st nd c e
 obtain ⟨h0,h1⟩:=hq _ rfl
 refine Body.intro (rs:=[]) rfl rfl rfl ?_
 apply vc_run 1000 (stop:=false) rfl;simp only [push_cast,simprocAttr]
 refine ⟨by constructor<;>omega,fun h=>?_,fun h=>?_⟩
 ·rw [if_pos (of_decide_eq_true h)]
 ·rw [if_neg (of_decide_eq_false h)])
noncomputable def sp_popQ:Spec:=⟨[.sc,.sc],[.io,.rd],false,fun
 | [.pb [.own true ⟨.opn,st⟩,.own true ⟨.node,nd⟩,.int .i64 c,.int .i64 e],.int .i64 k]=>some (some (0≤k∧InvR nd.reverse c∧st=stkR nd.reverse),.tup [],[.pb [.own true ⟨.opn,stkR (popsR (st.length - k.toNat) nd.reverse)⟩,.own true ⟨.node,(popsR (st.length - k.toNat) nd.reverse).reverse⟩,.int .i64 c,.int .i64 e]])
 | _=>none⟩
@[push_cast] theorem sp_popQ_s:sp_popQ.ps=[.sc,.sc]∧sp_popQ.modes=[.io,.rd]∧sp_popQ.pure=false:=⟨rfl,rfl,rfl⟩
@[push_cast] theorem sp_popQ_run (st:List Opn) (nd:List Node) (c e k:Int):sp_popQ.run [.pb [.own true ⟨.opn,st⟩,.own true ⟨.node,nd⟩,.int .i64 c,.int .i64 e],.int .i64 k]=some (some (0≤k∧InvR nd.reverse c∧st=stkR nd.reverse),.tup [],[.pb [.own true ⟨.opn,stkR (popsR (st.length - k.toNat) nd.reverse)⟩,.own true ⟨.node,(popsR (st.length - k.toNat) nd.reverse).reverse⟩,.int .i64 c,.int .i64 e]]):=rfl
noncomputable def e_popQ:Env:=mk [] [(4,[11,14],[(true,[0,1,2,3,4,5,6,7,8,9,10,11,12,13,14],[[1]])]),(5,[0,1,2],[(true,[0,1,2,3],[]),(false,[0,2,1,3],[])]),(6,[14,17,18,21],[(true,[0,1,2,3,4,5,6,7,8,9,10,11,12,13,14,15,16,17,18,19,20,21],[[1,2],[1,2],[1,2],[1,2],[1,2],[1,2],[],[],[],[],[],[],[],[],[],[0,2],[2]]),(false,[0,1,2,3,4,5,6,7,8,9,10,11,12,13,15,17,14,16,18,19,20,21],[[1,2],[1,2],[1,2],[1,2],[1,2],[1,2],[1],[1],[1],[1],[1],[1],[1],[1],[1,2]])]),(8,[14,16,17,20],[(true,[0,1,2,3,4,5,6,7,8,9,10,11,12,13,14,15,16,17,18,19,20],[[1,2,3],[1,2,3],[1,2,3],[1,2,3],[1,2,3],[1,2,3],[],[],[],[],[],[],[],[],[],[0]]),(false,[0,1,2,3,4,5,6,7,8,9,10,11,12,13,15,16,14,17,18,19,20],[[1,2,3],[1,2,3],[1,2,3],[1,2,3],[1,2,3],[1,2,3],[1],[1],[1],[1],[1],[1],[1],[1]])])] [(25,[.opn 24])] [] none
@[push_cast] theorem e_popQ_e:MkE e_popQ [] [(4,[11,14],[(true,[0,1,2,3,4,5,6,7,8,9,10,11,12,13,14],[[1]])]),(5,[0,1,2],[(true,[0,1,2,3],[]),(false,[0,2,1,3],[])]),(6,[14,17,18,21],[(true,[0,1,2,3,4,5,6,7,8,9,10,11,12,13,14,15,16,17,18,19,20,21],[[1,2],[1,2],[1,2],[1,2],[1,2],[1,2],[],[],[],[],[],[],[],[],[],[0,2],[2]]),(false,[0,1,2,3,4,5,6,7,8,9,10,11,12,13,15,17,14,16,18,19,20,21],[[1,2],[1,2],[1,2],[1,2],[1,2],[1,2],[1],[1],[1],[1],[1],[1],[1],[1],[1,2]])]),(8,[14,16,17,20],[(true,[0,1,2,3,4,5,6,7,8,9,10,11,12,13,14,15,16,17,18,19,20],[[1,2,3],[1,2,3],[1,2,3],[1,2,3],[1,2,3],[1,2,3],[],[],[],[],[],[],[],[],[],[0]]),(false,[0,1,2,3,4,5,6,7,8,9,10,11,12,13,15,16,14,17,18,19,20],[[1,2,3],[1,2,3],[1,2,3],[1,2,3],[1,2,3],[1,2,3],[1],[1],[1],[1],[1],[1],[1],[1]])])] [(25,[.opn 24])] [] none:=⟨rfl,rfl,rfl,rfl,rfl,rfl,rfl⟩
theorem c_popQ:CRow P0 ety0 65 sp_popQ:=CRow.of (E:=e_popQ) (mkOk (.nil)) func65 rfl rfl rfl (by
 intro args p r outs h hq
 simp only [sp_popQ] at h;split at h<;>cases h
 rename_i st nd c e k
 obtain ⟨h0,hI,hs⟩:=hq _ rfl
 obtain ⟨R,rfl⟩:∃ R:List Node,nd=R.reverse:=⟨nd.reverse,by simp⟩
 obtain ⟨b,rfl⟩:∃ b:Nat,k=b:=⟨k.toNat,by omega⟩
 simp only [List.reverse_reverse,Int.toNat_natCast] at hI hs ⊢
 subst hs
 have hL:=stkL hI.1
 have hI1:=hI.1
 refine Body.intro (rs:=[]) rfl rfl rfl ?_
 apply vc_run 1000 (stop:=false) rfl;simp only [push_cast,simprocAttr]
 refine Run.loop [] [0,1] [0] rfl (fun u vs bs=>∃ j:Nat,vs=[]∧bs=[[.own true ⟨.opn,stkR (popsR j R)⟩,.own true ⟨.node,(popsR j R).reverse⟩,.int .i64 c,.int .i64 e]]∧j≤(stkR R).length - b∧u=(stkR R).length - b - j) ((stkR R).length - b) ?_ ?_
 ·simp only [push_cast,simprocAttr]
  exact ⟨0,rfl,Nat.zero_le _,rfl⟩
 rintro u vs bs ⟨j,rfl,rfl,hj,rfl⟩
 simp only [push_cast,simprocAttr]
 apply vc_run 1000 (stop:=false) rfl;simp only [push_cast,simprocAttr]
 have hjl:j < R.length:=by omega
 have hIj:=inv_pops hjl hI
 have hpl:=popsR_len j R hjl
 obtain ⟨q1,q2,q3⟩:=inv_len hIj
 refine ⟨fun h=>?_,fun h=>?_⟩
 ·have h:=of_decide_eq_true h
  have hp1:popsR (j+1) R=popR (popsR j R):=rfl
  obtain ⟨x,y,r,hQ⟩:∃ x y r,popsR j R=x :: y :: r:=by
   match hp:popsR j R,hpl with
   | [],hpl=>simp at hpl;omega
   | [z],hpl=>simp at hpl;omega
   | x :: y :: r,_=>exact ⟨x,y,r,rfl⟩
  rw [hQ] at hpl hIj q2 q3 hp1 h ⊢
  have hk:=inv_kids hIj y (by simp)
  have l1:(x :: y :: r).reverse.length=r.length+2:=by simp
  have l2:(y :: r).reverse.length=r.length+1:=by simp
  have l3:(stkR (x :: y :: r)).length=r.length+1:=by rw [stkR_len];rfl
  have e1:((x :: y :: r).reverse.length:Int) - 1=((r.length+1:Nat):Int):=by omega
  have e2:((r.length+1:Nat):Int) - 1=(r.length:Int):=by omega
  have e3:(x :: y :: r).reverse.take (r.length+1)=(y :: r).reverse:=by rw [List.reverse_cons,List.take_append_of_le_length (by simp),List.take_of_length_le (by simp)]
  have e4:(y :: r).reverse.getD r.length nodeD=y:=by rw [List.reverse_cons,← List.length_reverse];exact getD_rev _ _ _
  have e5:(x :: y :: r).reverse.getD (r.length+1) nodeD=x:=by rw [List.reverse_cons,← l2];exact getD_rev _ _ _
  have e6:∀ v,(y :: r).reverse.set r.length v=(v :: r).reverse:=fun v=>by rw [List.reverse_cons,List.reverse_cons,← List.length_reverse];exact set_rev _ _ _
  have e7:((stkR (x :: y :: r)).length:Int) - 1=(r.length:Int):=by omega
  have e8:(stkR (x :: y :: r)).take r.length=stkR (y :: r):=by
   rw [stkR_cons,List.take_append_of_le_length (by rw [stkR_len];exact Nat.le_refl _),List.take_of_length_le (by rw [stkR_len];exact Nat.le_refl _)]
  simp only [e1,e2,gd_nat,Int.toNat_natCast,e3,e4,e5,e6,e7,e8,set_rev]
  have fin:∃ j1,j1 < (stkR R).length - b - j∧∃ j2,[[AV.own true ⟨.opn,stkR (y :: r)⟩,.own true ⟨.node,(Node.mk y.kind y.space y.name y.text y.attrs (y.kids++[x]) :: r).reverse⟩,.int .i64 c,.int .i64 e]]=[[.own true ⟨.opn,stkR (popsR j2 R)⟩,.own true ⟨.node,(popsR j2 R).reverse⟩,.int .i64 c,.int .i64 e]]∧j2≤(stkR R).length - b∧j1=(stkR R).length - b - j2:=by
   refine ⟨(stkR R).length - b - (j+1),by omega,j+1,?_,by omega,rfl⟩
   rw [hp1,popR,stkR_setKids];rfl
  exact ⟨by constructor<;>omega,by omega,by omega,by constructor<;>omega,by omega,⟨fun h=>h.elim,by constructor<;>omega,by constructor<;>omega,by omega,by unfold sizeOk;omega,by omega,fin⟩,
   ⟨by constructor<;>omega,by constructor<;>omega,by omega,by unfold sizeOk;omega,by omega,by omega,fin⟩,fun h=>(by cases h)⟩
 ·have h:=of_decide_eq_false h
  have:j=(stkR R).length - b:=by omega
  rw [this])
noncomputable def sp_putQ:Spec:=⟨[.sc,.st .node],[.io,.tk],false,fun
 | [.pb [.own true ⟨.opn,st⟩,.own true ⟨.node,nd⟩,.int .i64 c,.int .i64 e],.agg [.int .i64 k,.int .i64 s,.str m,.str t,.own true ⟨.attr,a⟩,.nilS]]=>some (some (InvR nd.reverse c∧t.length≤524000),.tup [],[.pb [.own true ⟨.opn,st⟩,.own true ⟨.node,(putQ nd.reverse e (.mk k s m t a [])).1.reverse⟩,.int .i64 c,.int .i64 (putQ nd.reverse e (.mk k s m t a [])).2]])
 | [.pb [.own true ⟨.opn,st⟩,.own true ⟨.node,nd⟩,.int .i64 c,.int .i64 e],.agg [.int .i64 k,.int .i64 s,.str m,.str t,.nilS,.nilS]]=>some (some (InvR nd.reverse c∧t.length≤524000),.tup [],[.pb [.own true ⟨.opn,st⟩,.own true ⟨.node,(putQ nd.reverse e (.mk k s m t [] [])).1.reverse⟩,.int .i64 c,.int .i64 (putQ nd.reverse e (.mk k s m t [] [])).2]])
 | _=>none⟩
@[push_cast] theorem sp_putQ_s:sp_putQ.ps=[.sc,.st .node]∧sp_putQ.modes=[.io,.tk]∧sp_putQ.pure=false:=⟨rfl,rfl,rfl⟩
@[push_cast] theorem sp_putQ_run (st:List Opn) (nd:List Node) (c e k s:Int) (m t:Str) (a:List Attr):sp_putQ.run [.pb [.own true ⟨.opn,st⟩,.own true ⟨.node,nd⟩,.int .i64 c,.int .i64 e],.agg [.int .i64 k,.int .i64 s,.str m,.str t,.own true ⟨.attr,a⟩,.nilS]]=some (some (InvR nd.reverse c∧t.length≤524000),.tup [],[.pb [.own true ⟨.opn,st⟩,.own true ⟨.node,(putQ nd.reverse e (.mk k s m t a [])).1.reverse⟩,.int .i64 c,.int .i64 (putQ nd.reverse e (.mk k s m t a [])).2]]):=rfl
@[push_cast] theorem sp_putQ_run1 (st:List Opn) (nd:List Node) (c e k s:Int) (m t:Str):sp_putQ.run [.pb [.own true ⟨.opn,st⟩,.own true ⟨.node,nd⟩,.int .i64 c,.int .i64 e],.agg [.int .i64 k,.int .i64 s,.str m,.str t,.nilS,.nilS]]=some (some (InvR nd.reverse c∧t.length≤524000),.tup [],[.pb [.own true ⟨.opn,st⟩,.own true ⟨.node,(putQ nd.reverse e (.mk k s m t [] [])).1.reverse⟩,.int .i64 c,.int .i64 (putQ nd.reverse e (.mk k s m t [] [])).2]]):=rfl
noncomputable def e_putQ:Env:=mk [] [(5,[],[(true,[0,1,2,3,4,5,6,7,8,9,10,11],[])]),(7,[11],[(true,[0,1,2,3,4,5,6,7,8,9,10,11],[])]),(10,[7,8,11],[(true,[0,1,2,3,4,5,6,7,8,9,10,11],[[1,2],[1,2],[1,2],[1,2],[1,2],[1]])])] [] [] none
@[push_cast] theorem e_putQ_e:MkE e_putQ [] [(5,[],[(true,[0,1,2,3,4,5,6,7,8,9,10,11],[])]),(7,[11],[(true,[0,1,2,3,4,5,6,7,8,9,10,11],[])]),(10,[7,8,11],[(true,[0,1,2,3,4,5,6,7,8,9,10,11],[[1,2],[1,2],[1,2],[1,2],[1,2],[1]])])] [] [] none:=⟨rfl,rfl,rfl,rfl,rfl,rfl,rfl⟩
theorem c_putQ:CRow P0 ety0 121 sp_putQ:=CRow.of (E:=e_putQ) (mkOk (.nil)) func121 rfl rfl rfl (by
 intro args p r outs h hq
 simp only [sp_putQ] at h;split at h<;>cases h
 ·rename_i st nd c e k s m t a
  obtain ⟨hI,ht⟩:=hq _ rfl
  obtain ⟨R,rfl⟩:∃ R:List Node,nd=R.reverse:=⟨nd.reverse,by simp⟩
  simp only [List.reverse_reverse] at hI ⊢
  obtain ⟨y,r,rfl⟩:=R_cons hI.1
  have hk:=inv_kids hI y (by simp)
  have hr:r.length≤10:=by have:=hI.2.1;simp at this;omega
  have htx:=(hI.2.2.2.2.2 y (by simp)).2
  refine Body.intro (rs:=[]) rfl rfl rfl ?_
  apply vc_run 1000 (stop:=false) rfl;simp only [push_cast,simprocAttr]
  have l2:(y :: r).reverse.length=r.length+1:=by simp
  have e1:((y :: r).reverse.length:Int) - 1=(r.length:Int):=by omega
  have e4:(y :: r).reverse.getD r.length nodeD=y:=by rw [List.reverse_cons,← List.length_reverse];exact getD_rev _ _ _
  have e6:∀ v,(y :: r).reverse.set r.length v=(v :: r).reverse:=fun v=>by rw [List.reverse_cons,List.reverse_cons,← List.length_reverse];exact set_rev _ _ _
  simp only [e1,gd_nat,Int.toNat_natCast,e4,e6]
  have hpq:putQ (y :: r) e (.mk k s m t a [])=if k=2∧isTx (y :: r)=true then if 120 < lastLen (y :: r)+t.length then (y :: r,8) else (joinR t (y :: r),e) else if 120 < t.length then (y :: r,8) else (addR (.mk k s m t a []) (y :: r),e):=rfl
  rw [hpq]
  have hd:∀ {z:Bool},(bif bif decide (k=2) then decide (0 < (y.kids.length:Int)) else false then z else false)=true→k=2∧0 < y.kids.length∧z=true:=fun {z} h=>by
   cases h1:decide (k=2) with
   | false=>rw [h1] at h;cases h
   | true =>
    rw [h1] at h
    cases h2:decide (0 < (y.kids.length:Int)) with
    | false=>rw [h2] at h;cases h
    | true=>rw [h2] at h;have:=of_decide_eq_true h2;exact ⟨of_decide_eq_true h1,by omega,h⟩
  have hd2:(bif decide (k=2) then decide (0 < (y.kids.length:Int)) else false)=true→0 < y.kids.length:=fun h=>by
   cases h1:decide (k=2) with
   | false=>rw [h1] at h;cases h
   | true=>rw [h1] at h;have:=of_decide_eq_true h;omega
  refine ⟨by constructor<;>omega,by omega,fun h=>by have:=hd2 h;constructor<;>omega,fun h=>by have:=hd2 h;omega,fun h=>?_,fun h=>?_⟩
  ·obtain ⟨g1,g2,g3⟩:=hd h
   have e7:(y.kids.length:Int) - 1=((y.kids.length - 1:Nat):Int):=by omega
   have hl:=last_bound htx g2
   simp only [e7,gd_nat,Int.toNat_natCast] at g3 ⊢
   have hT:isTx (y :: r)=true:=by
    unfold isTx lastN
    rw [Bool.and_eq_true]
    exact ⟨by cases hy:y.kids with
     | nil=>rw [hy] at g2;simp at g2
     | cons z q=>rfl,g3⟩
   rw [if_pos ⟨g1,hT⟩]
   have hll:lastLen (y :: r)=(y.kids.getD (y.kids.length - 1) nodeD).text.length:=rfl
   rw [hll]
   refine ⟨by constructor<;>omega,by omega,by constructor<;>omega,fun f=>?_,fun f=>?_⟩
   ·rw [if_pos (by have:=of_decide_eq_true f;omega)]
   ·rw [if_neg (by have:=of_decide_eq_false f;omega)]
    exact ⟨by constructor<;>omega,by omega,by omega,by omega,rfl⟩
  ·have hT:¬ (k=2∧isTx (y :: r)=true):=by
    rintro ⟨g1,g2⟩
    unfold isTx lastN at g2
    rw [Bool.and_eq_true] at g2
    have g3:0 < y.kids.length:=by
     cases hy:y.kids with
     | nil=>rw [hy] at g2;cases g2.1
     | cons z q=>simp
    rw [decide_eq_true g1,decide_eq_true (show 0 < (y.kids.length:Int) by omega),show (y.kids.length:Int) - 1=((y.kids.length - 1:Nat):Int) by omega,gd_nat,g2.2] at h
    cases h
   rw [if_neg hT]
   refine ⟨fun f=>?_,fun f=>?_⟩
   ·rw [if_pos (by have:=of_decide_eq_true f;omega)]
   ·rw [if_neg (by have:=of_decide_eq_false f;omega)]
    exact ⟨by unfold sizeOk;omega,by omega,rfl⟩
 ·rename_i st nd c e k s m t
  obtain ⟨hI,ht⟩:=hq _ rfl
  obtain ⟨R,rfl⟩:∃ R:List Node,nd=R.reverse:=⟨nd.reverse,by simp⟩
  simp only [List.reverse_reverse] at hI ⊢
  obtain ⟨y,r,rfl⟩:=R_cons hI.1
  have hk:=inv_kids hI y (by simp)
  have hr:r.length≤10:=by have:=hI.2.1;simp at this;omega
  have htx:=(hI.2.2.2.2.2 y (by simp)).2
  refine Body.intro (rs:=[]) rfl rfl rfl ?_
  apply vc_run 1000 (stop:=false) rfl;simp only [push_cast,simprocAttr]
  have l2:(y :: r).reverse.length=r.length+1:=by simp
  have e1:((y :: r).reverse.length:Int) - 1=(r.length:Int):=by omega
  have e4:(y :: r).reverse.getD r.length nodeD=y:=by rw [List.reverse_cons,← List.length_reverse];exact getD_rev _ _ _
  have e6:∀ v,(y :: r).reverse.set r.length v=(v :: r).reverse:=fun v=>by rw [List.reverse_cons,List.reverse_cons,← List.length_reverse];exact set_rev _ _ _
  simp only [e1,gd_nat,Int.toNat_natCast,e4,e6]
  have hpq:putQ (y :: r) e (.mk k s m t [] [])=if k=2∧isTx (y :: r)=true then if 120 < lastLen (y :: r)+t.length then (y :: r,8) else (joinR t (y :: r),e) else if 120 < t.length then (y :: r,8) else (addR (.mk k s m t [] []) (y :: r),e):=rfl
  rw [hpq]
  have hd:∀ {z:Bool},(bif bif decide (k=2) then decide (0 < (y.kids.length:Int)) else false then z else false)=true→k=2∧0 < y.kids.length∧z=true:=fun {z} h=>by
   cases h1:decide (k=2) with
   | false=>rw [h1] at h;cases h
   | true =>
    rw [h1] at h
    cases h2:decide (0 < (y.kids.length:Int)) with
    | false=>rw [h2] at h;cases h
    | true=>rw [h2] at h;have:=of_decide_eq_true h2;exact ⟨of_decide_eq_true h1,by omega,h⟩
  have hd2:(bif decide (k=2) then decide (0 < (y.kids.length:Int)) else false)=true→0 < y.kids.length:=fun h=>by
   cases h1:decide (k=2) with
   | false=>rw [h1] at h;cases h
   | true=>rw [h1] at h;have:=of_decide_eq_true h;omega
  refine ⟨by constructor<;>omega,by omega,fun h=>by have:=hd2 h;constructor<;>omega,fun h=>by have:=hd2 h;omega,fun h=>?_,fun h=>?_⟩
  ·obtain ⟨g1,g2,g3⟩:=hd h
   have e7:(y.kids.length:Int) - 1=((y.kids.length - 1:Nat):Int):=by omega
   have hl:=last_bound htx g2
   simp only [e7,gd_nat,Int.toNat_natCast] at g3 ⊢
   have hT:isTx (y :: r)=true:=by
    unfold isTx lastN
    rw [Bool.and_eq_true]
    exact ⟨by cases hy:y.kids with
     | nil=>rw [hy] at g2;simp at g2
     | cons z q=>rfl,g3⟩
   rw [if_pos ⟨g1,hT⟩]
   have hll:lastLen (y :: r)=(y.kids.getD (y.kids.length - 1) nodeD).text.length:=rfl
   rw [hll]
   refine ⟨by constructor<;>omega,by omega,by constructor<;>omega,fun f=>?_,fun f=>?_⟩
   ·rw [if_pos (by have:=of_decide_eq_true f;omega)]
   ·rw [if_neg (by have:=of_decide_eq_false f;omega)]
    exact ⟨by constructor<;>omega,by omega,by omega,by omega,rfl⟩
  ·have hT:¬ (k=2∧isTx (y :: r)=true):=by
    rintro ⟨g1,g2⟩
    unfold isTx lastN at g2
    rw [Bool.and_eq_true] at g2
    have g3:0 < y.kids.length:=by
     cases hy:y.kids with
     | nil=>rw [hy] at g2;cases g2.1
     | cons z q=>simp
    rw [decide_eq_true g1,decide_eq_true (show 0 < (y.kids.length:Int) by omega),show (y.kids.length:Int) - 1=((y.kids.length - 1:Nat):Int) by omega,gd_nat,g2.2] at h
    cases h
   rw [if_neg hT]
   refine ⟨fun f=>?_,fun f=>?_⟩
   ·rw [if_pos (by have:=of_decide_eq_true f;omega)]
   ·rw [if_neg (by have:=of_decide_eq_false f;omega)]
    exact ⟨by unfold sizeOk;omega,by omega,rfl⟩)
theorem isTx_cons (y:Node) (r:List Node):isTx (y :: r)=(!y.kids.isEmpty&&decide ((lastN y.kids).kind=2)):=rfl
noncomputable def sp_wordsQ:Spec:=⟨[.sc,.sc,.sc],[.io,.rd,.rd],false,fun
 | [.pb [.own true ⟨.opn,st⟩,.own true ⟨.node,nd⟩,.int .i64 c,.int .i64 0],.int .i64 k,.str t]=>some (some (InvR nd.reverse c∧t.length≤524000∧(k=2∨k=3)),.tup [],[.pb [.own true ⟨.opn,st⟩,.own true ⟨.node,(wordsQ nd.reverse c k t).1.reverse⟩,.int .i64 (wordsQ nd.reverse c k t).2.1,.int .i64 (wordsQ nd.reverse c k t).2.2]])
 | _=>none⟩
@[push_cast] theorem sp_wordsQ_s:sp_wordsQ.ps=[.sc,.sc,.sc]∧sp_wordsQ.modes=[.io,.rd,.rd]∧sp_wordsQ.pure=false:=⟨rfl,rfl,rfl⟩
@[push_cast] theorem sp_wordsQ_run (st:List Opn) (nd:List Node) (c k:Int) (t:Str):sp_wordsQ.run [.pb [.own true ⟨.opn,st⟩,.own true ⟨.node,nd⟩,.int .i64 c,.int .i64 0],.int .i64 k,.str t]=some (some (InvR nd.reverse c∧t.length≤524000∧(k=2∨k=3)),.tup [],[.pb [.own true ⟨.opn,st⟩,.own true ⟨.node,(wordsQ nd.reverse c k t).1.reverse⟩,.int .i64 (wordsQ nd.reverse c k t).2.1,.int .i64 (wordsQ nd.reverse c k t).2.2]]):=rfl
noncomputable def e_wordsQ:Env:=mk [(120,sp_moreQ),(121,sp_putQ)] [] [(55,[.cls 17]),(65,[.cls 17])] [] none
@[push_cast] theorem e_wordsQ_e:MkE e_wordsQ [(120,sp_moreQ),(121,sp_putQ)] [] [(55,[.cls 17]),(65,[.cls 17])] [] none:=⟨rfl,rfl,rfl,rfl,rfl,rfl,rfl⟩
theorem c_wordsQ:CRow P0 ety0 66 sp_wordsQ:=CRow.of (E:=e_wordsQ) (mkOk (.cons c_moreQ (.cons c_putQ (.nil)))) func66 rfl rfl rfl (by
 intro args p r outs h hq
 simp only [sp_wordsQ] at h;split at h<;>cases h
 rename_i st nd c k t
 obtain ⟨hI,ht,hk⟩:=hq _ rfl
 obtain ⟨R,rfl⟩:∃ R:List Node,nd=R.reverse:=⟨nd.reverse,by simp⟩
 simp only [List.reverse_reverse] at hI ⊢
 obtain ⟨y,r,rfl⟩:=R_cons hI.1
 refine Body.intro (rs:=[]) rfl rfl rfl ?_
 apply vc_run 1000 (stop:=false) rfl;simp only [push_cast,simprocAttr]
 have l2:(y :: r).reverse.length=r.length+1:=by simp
 have e1:((y :: r).reverse.length:Int) - 1=(r.length:Int):=by omega
 have e4:(y :: r).reverse.getD r.length nodeD=y:=by rw [List.reverse_cons,← List.length_reverse];exact getD_rev _ _ _
 have e6:∀ v,(y :: r).reverse.set r.length v=(v :: r).reverse:=fun v=>by rw [List.reverse_cons,List.reverse_cons,← List.length_reverse];exact set_rev _ _ _
 simp only [e1,gd_nat,Int.toNat_natCast,e4,e6,List.reverse_reverse]
 have hr:r.length≤10:=by have:=hI.2.1;simp at this;omega
 have hkd:=inv_kids hI y (by simp)
 have c0:=hI.2.2.1
 have c1:=hI.2.2.2.1
 have hc:(bif bif decide (k=3) then true else decide ((y.kids.length:Int)=0) then true else !decide ((gd y.kids nodeD ((y.kids.length:Int) - 1)).kind=2))=decide (k=3∨isTx (y :: r)=false):=by
  by_cases h3:k=3
  ·rw [decide_eq_true h3,decide_eq_true (show k=3∨_ from .inl h3)];rfl
  ·rw [decide_eq_false h3]
   have:(k=3∨isTx (y :: r)=false)=(isTx (y :: r)=false):=propext ⟨fun h=>h.resolve_left h3,.inr⟩
   simp only [this]
   cases hy:y.kids with
   | nil =>
    have:isTx (y :: r)=false:=by rw [isTx_cons,hy];rfl
    rw [decide_eq_true this];rfl
   | cons z q =>
    have e7:((z :: q).length:Int) - 1=(((z :: q).length - 1:Nat):Int):=by simp
    have h0:decide (((z :: q).length:Int)=0)=false:=decide_eq_false (by simp;omega)
    have:isTx (y :: r)=decide (((z :: q).getD ((z :: q).length - 1) nodeD).kind=2)  :=by rw [isTx_cons,hy];rfl
    rw [e7,gd_nat,h0,this]
    cases decide (((z :: q).getD ((z :: q).length - 1) nodeD).kind=2)<;>rfl
 have hz:(bif decide (k=3) then true else decide ((y.kids.length:Int)=0))=false→0 < y.kids.length:=fun h=>by
  cases h1:decide (k=3) with
  | true=>rw [h1] at h;cases h
  | false=>rw [h1] at h;have:=of_decide_eq_false h;omega
 rw [hc]
 have hw:wordsQ (y :: r) c k t=if k=3∨isTx (y :: r)=false then if 10 < (y :: r).length then (y :: r,c,11) else if 60 < c+1 then (y :: r,c+1,6) else ((putQ (y :: r) 0 (.mk k 0 [] t [] [])).1,c+1,(putQ (y :: r) 0 (.mk k 0 [] t [] [])).2)
  else ((putQ (y :: r) 0 (.mk k 0 [] t [] [])).1,c,(putQ (y :: r) 0 (.mk k 0 [] t [] [])).2):=rfl
 rw [hw]
 refine ⟨by constructor<;>omega,by omega,fun h=>by omega,fun h=>by have:=hz h;constructor<;>omega,fun h=>by have:=hz h;omega,fun h=>?_,fun h=>?_⟩
 ·rw [if_pos (of_decide_eq_true h)]
  have l3:(y :: r).length=r.length+1:=rfl
  refine ⟨fun g=>?_,fun g=>?_⟩
  ·rw [if_pos (show 10 < (y :: r).length by have:=of_decide_eq_true g;omega)]
  ·rw [if_neg (show ¬ 10 < (y :: r).length by have:=of_decide_eq_false g;omega)]
   by_cases h60:60 < c+1
   ·simp only [if_pos h60]
    exact ⟨⟨c0,by omega⟩,fun f=>by simp at f,fun _=>by trivial⟩
   ·simp only [if_neg h60]
    exact ⟨⟨c0,by omega⟩,fun f=>⟨⟨⟨hI.1,hI.2.1,by omega,by omega,by have:=hI.2.2.2.2.1;omega,hI.2.2.2.2.2⟩,ht⟩,by trivial⟩,fun f=>by simp at f⟩
 ·rw [if_neg (of_decide_eq_false h)]
  exact ⟨⟨⟨hI,ht⟩,rfl⟩,fun h=>(by cases h)⟩)
noncomputable def sp_openQ:Spec:=⟨[.sc,.st .tokn],[.io,.tk],false,fun
 | [.pb [.own true ⟨.opn,st⟩,.own true ⟨.node,nd⟩,.int .i64 c,.int .i64 0],.agg [.int .i64 k,.int .i64 p,.int .i64 n,.str m,.str x,.own true ⟨.attr,a⟩,.bool sf]]=>some (some (InvR nd.reverse c∧st=stkR nd.reverse),.tup [],[.pb [.own true ⟨.opn,stkR (openQ nd.reverse c ⟨k,p,n,m,x,a,sf⟩).1⟩,.own true ⟨.node,(openQ nd.reverse c ⟨k,p,n,m,x,a,sf⟩).1.reverse⟩,.int .i64 (openQ nd.reverse c ⟨k,p,n,m,x,a,sf⟩).2.1,.int .i64 (openQ nd.reverse c ⟨k,p,n,m,x,a,sf⟩).2.2]])
 | _=>none⟩
@[push_cast] theorem sp_openQ_s:sp_openQ.ps=[.sc,.st .tokn]∧sp_openQ.modes=[.io,.tk]∧sp_openQ.pure=false:=⟨rfl,rfl,rfl⟩
@[push_cast] theorem sp_openQ_run (st:List Opn) (nd:List Node) (c k p n:Int) (m x:Str) (a:List Attr) (sf:Bool):sp_openQ.run [.pb [.own true ⟨.opn,st⟩,.own true ⟨.node,nd⟩,.int .i64 c,.int .i64 0],.agg [.int .i64 k,.int .i64 p,.int .i64 n,.str m,.str x,.own true ⟨.attr,a⟩,.bool sf]]=some (some (InvR nd.reverse c∧st=stkR nd.reverse),.tup [],[.pb [.own true ⟨.opn,stkR (openQ nd.reverse c ⟨k,p,n,m,x,a,sf⟩).1⟩,.own true ⟨.node,(openQ nd.reverse c ⟨k,p,n,m,x,a,sf⟩).1.reverse⟩,.int .i64 (openQ nd.reverse c ⟨k,p,n,m,x,a,sf⟩).2.1,.int .i64 (openQ nd.reverse c ⟨k,p,n,m,x,a,sf⟩).2.2]]):=rfl
theorem stkR_pops:∀ (j:Nat) (R:List Node),j < R.length→stkR (popsR j R)=(stkR R).take ((stkR R).length - j)
 | 0,R,_=>by rw [popsR,Nat.sub_zero,List.take_length]
 | j+1,R,h=>by
  have ih:=stkR_pops j R (by omega)
  have hl:=popsR_len j R (by omega)
  have hs:=stkL (R:=R) (fun e=>by subst e;simp at h)
  rw [popsR]
  match hp:popsR j R,hl,ih with
  | [],hl,_=>simp at hl;omega
  | [z],hl,_=>simp at hl;omega
  | x :: y :: r,hl,ih =>
   rw [popR,stkR_setKids]
   have h1:=congrArg (fun l=>l.take r.length) ih
   simp only [stkR_cons,List.take_take] at h1
   rw [List.take_append_of_le_length (by rw [stkR_len];exact Nat.le_refl _),List.take_of_length_le (by rw [stkR_len];exact Nat.le_refl _)] at h1
   simp only [List.length_cons] at hl
   rw [h1];congr 1;omega
noncomputable def e_openQ:Env:=mk [(122,sp_impl2),(65,sp_popQ),(123,sp_spaceP),(120,sp_moreQ),(121,sp_putQ),(92,sp_isVoidS)] [(1,[],[(true,[0,1,2,3,4,5,6,7,8,9,10,11,12,13],[])]),(3,[],[(true,[0,1,2,3,4,5,6,7],[])]),(11,[9,10,13],[(true,[0,1,2,3,4,5,6,7,8,9,10,11,12,13],[[1,2],[1],[1],[1],[1]])]),(12,[6,7,9,12],[(true,[0,1,2,3,4,5,6,7,8,9,10,11,12],[[1],[1],[1],[1],[1],[1],[],[],[],[],[2],[2]]),(false,[0,1,2,3,4,5,6,7,8,10,11,12,9],[[1],[1],[1],[1],[1],[1],[],[],[3]])])] [] [] none
@[push_cast] theorem e_openQ_e:MkE e_openQ [(122,sp_impl2),(65,sp_popQ),(123,sp_spaceP),(120,sp_moreQ),(121,sp_putQ),(92,sp_isVoidS)] [(1,[],[(true,[0,1,2,3,4,5,6,7,8,9,10,11,12,13],[])]),(3,[],[(true,[0,1,2,3,4,5,6,7],[])]),(11,[9,10,13],[(true,[0,1,2,3,4,5,6,7,8,9,10,11,12,13],[[1,2],[1],[1],[1],[1]])]),(12,[6,7,9,12],[(true,[0,1,2,3,4,5,6,7,8,9,10,11,12],[[1],[1],[1],[1],[1],[1],[],[],[],[],[2],[2]]),(false,[0,1,2,3,4,5,6,7,8,10,11,12,9],[[1],[1],[1],[1],[1],[1],[],[],[3]])])] [] [] none:=⟨rfl,rfl,rfl,rfl,rfl,rfl,rfl⟩
theorem c_openQ:CRow P0 ety0 67 sp_openQ:=CRow.of (E:=e_openQ) (mkOk (.cons c_impl2 (.cons c_popQ (.cons c_spaceP (.cons c_moreQ (.cons c_putQ (.cons c_isVoidS2 (.nil)))))))) func67 rfl rfl rfl (by
 intro args p r outs h hq
 simp only [sp_openQ] at h;split at h<;>cases h
 rename_i st nd c k p n m x a sf
 obtain ⟨hI,hs⟩:=hq _ rfl
 obtain ⟨R,rfl⟩:∃ R:List Node,nd=R.reverse:=⟨nd.reverse,by simp⟩
 simp only [List.reverse_reverse] at hI hs ⊢
 subst hs
 have hn:=stayN_le (stkR R) m
 obtain ⟨i1,i2,i3⟩:=inv_len hI
 refine Body.intro (rs:=[]) rfl rfl rfl ?_
 apply vc_run 1000 (stop:=false) rfl;simp only [push_cast,simprocAttr]
 have e0:((stkR R).length:Int) - ((stkR R).length - (stayN (stkR R) m:Nat))=(stayN (stkR R) m:Nat):=by omega
 simp only [List.reverse_reverse,e0,Int.toNat_natCast]
 have hjl:(stkR R).length - stayN (stkR R) m < R.length:=by omega
 have hIQ:=inv_pops hjl hI
 have hpl:=popsR_len _ R hjl
 have hsq:=stkR_pops _ R hjl
 obtain ⟨q1,q2,q3⟩:=inv_len hIQ
 have hlen:(stkR (popsR ((stkR R).length - stayN (stkR R) m) R)).length=stayN (stkR R) m:=by omega
 have hsp:spaceN (stkR (popsR ((stkR R).length - stayN (stkR R) m) R)) m (stkR (popsR ((stkR R).length - stayN (stkR R) m) R)).length=spaceN (stkR R) m (stayN (stkR R) m):=by
  rw [hlen]
  unfold spaceN
  by_cases h0:spaceS m=0∧0 < stayN (stkR R) m
  ·rw [if_pos h0,if_pos h0,hsq,getD_take opnD (by omega)]
  ·rw [if_neg h0,if_neg h0]
 rw [hsp]
 have ho:openQ R c ⟨k,p,n,m,x,a,sf⟩=if 10 < (popsR ((stkR R).length - stayN (stkR R) m) R).length then (popsR ((stkR R).length - stayN (stkR R) m) R,c,11) else if 60 < c+1 then (popsR ((stkR R).length - stayN (stkR R) m) R,c+1,6)
   else if spaceN (stkR R) m (stayN (stkR R) m)=0∧isVoidS m=true∨spaceN (stkR R) m (stayN (stkR R) m)≠0∧sf=true then
    ((putQ (popsR ((stkR R).length - stayN (stkR R) m) R) 0 (.mk 1 (spaceN (stkR R) m (stayN (stkR R) m)) m [] a [])).1,c+1,(putQ (popsR ((stkR R).length - stayN (stkR R) m) R) 0 (.mk 1 (spaceN (stkR R) m (stayN (stkR R) m)) m [] a [])).2)
   else (.mk 1 (spaceN (stkR R) m (stayN (stkR R) m)) m [] a [] :: popsR ((stkR R).length - stayN (stkR R) m) R,c+1,0):=rfl
 rw [ho]
 clear ho hsp hsq hlen hpl
 generalize popsR ((stkR R).length - stayN (stkR R) m) R=Q at *
 generalize spaceN (stkR R) m (stayN (stkR R) m)=sp at *
 have c0:=hI.2.2.1
 have c1:=hI.2.2.2.1
 have lr:Q.reverse.length=Q.length:=List.length_reverse
 refine ⟨by omega,by constructor<;>omega,⟨by omega,hI,trivial⟩,by omega,fun h=>?_,fun h=>?_⟩
 ·rw [if_pos (show 10 < Q.length by have:=of_decide_eq_true h;omega)]
 rw [if_neg (show ¬ 10 < Q.length by have:=of_decide_eq_false h;omega)]
 refine ⟨⟨c0,by omega⟩,?_⟩
 by_cases h60:60 < c+1
 ·simp only [if_pos h60]
  exact ⟨fun _=>by trivial,fun f=>by simp at f⟩
 simp only [if_neg h60]
 have hI':InvR Q (c+1):=⟨hIQ.1,hIQ.2.1,by omega,by omega,by have:=hIQ.2.2.2.2.1;omega,hIQ.2.2.2.2.2⟩
 obtain ⟨y,r,rfl⟩:=R_cons hIQ.1
 have hpq:putQ (y :: r) 0 (.mk 1 sp m [] a [])=(addR (.mk 1 sp m [] a []) (y :: r),0):=by
  unfold putQ
  rw [if_neg (by rintro ⟨h,_⟩;cases h),if_neg (by show ¬ 120 < ([]:Str).length;simp)]
 have hs1:stkR (addR (.mk 1 sp m [] a []) (y :: r))=stkR (y :: r):=by rw [addR,stkR_setKids]
 refine ⟨fun f=>by simp at f,fun _=>⟨fun f=>?_,fun f=>?_⟩⟩
 ·have hv:sp=0∧isVoidS m=true∨sp≠0∧sf=true:=by
   cases h1:decide (sp=0)<;>cases h2:isVoidS m<;>cases sf<;>rw [h1,h2] at f<;>first | cases f | skip
   all_goals first | exact .inl ⟨of_decide_eq_true h1,rfl⟩ | exact .inr ⟨of_decide_eq_false h1,rfl⟩
  simp only [if_pos hv]
  refine ⟨hI',?_⟩
  rw [hpq,hs1]
 ·have hv:¬ (sp=0∧isVoidS m=true∨sp≠0∧sf=true):=by
   rintro (⟨g1,g2⟩ | ⟨g1,g2⟩)
   ·rw [decide_eq_true g1,g2] at f;cases f
   ·rw [decide_eq_false g1,g2] at f;cases f
  simp only [if_neg hv,set_rev,List.reverse_cons]
  have hl:r.length≤10:=by have:=hIQ.2.1;simp at this;omega
  refine ⟨by unfold sizeOk;omega,by unfold sizeOk;simp;omega,by omega,?_⟩
  rw [stkR_cons];rfl)
theorem stk_put {R:List Node} {c:Int} {x:Node} (hR:R≠[]):stkR (putQ R c x).1=stkR R:=by
 obtain ⟨y,r,rfl⟩:=R_cons hR
 unfold putQ
 split
 ·split
  ·rfl
  ·rw [joinR,stkR_setKids]
 ·split
  ·rfl
  ·rw [addR,stkR_setKids]
theorem stk_words {R:List Node} {c k:Int} {t:Str} (hR:R≠[]):stkR (wordsQ R c k t).1=stkR R:=by
 unfold wordsQ
 split
 ·split
  ·rfl
  ·split
   ·rfl
   ·exact stk_put hR
 ·exact stk_put hR
theorem raw_e {p:Prop} [d:Decidable p] {k:Bool} (g:(bif !decide p then !k else false)=false) (h:k=false):p:=by
 cases h1:decide p with
 | true=>exact of_decide_eq_true h1
 | false=>rw [h1,h] at g;cases g
def takeQ (R:List Node) (c:Int) (tk:Tokn) (raw:Str):List Node × Int × Int :=
 if raw≠[]∧tk.kind≠1 then (popR R,c,0)
 else if tk.kind=1 then wordsQ R c 2 tk.text
 else if tk.kind=4 then wordsQ R c 3 tk.text
 else if tk.kind=2 then openQ R c tk
 else if tk.kind=3 then (closesR R tk.name,c,0)
 else (R,c,0)
theorem putQ_R {R:List Node} {c:Int} {x:Node} (hx:¬ (x.kind=2∧isTx R=true)) (h1:¬ R.length=11) (h2:¬ 60 < c+1):((putQ R 0 x).1,c+1,(putQ R 0 x).2)=(if 120 < x.text.length then (R,c+1,8) else (addR x R,c+1,0)):=by
 unfold putQ
 rw [if_neg hx]
 split<;>rfl
theorem wordsQ_R {R:List Node} {c:Int} {t:Str} (hI:InvR R c):(wordsQ R c 2 t).2.2=(wordsR R c t).2.2∧((wordsR R c t).2.2=0→wordsQ R c 2 t=wordsR R c t):=by
 have hl:=hI.2.1
 unfold wordsQ wordsR
 by_cases ht:isTx R=true
 ·rw [if_neg (show ¬ ((2:Int)=3∨isTx R=false) by rw [ht];simp),if_pos ht]
  unfold putQ
  rw [if_pos (show (Node.mk 2 0 [] t [] []).kind=2∧isTx R=true from ⟨rfl,ht⟩)]
  show (if 120 < lastLen R+t.length then (R,(8:Int)) else (joinR t R,0)).2=_∧_
  by_cases h:120 < lastLen R+t.length
  ·rw [if_pos h,if_pos h];exact ⟨rfl,fun h=>by simp at h⟩
  ·rw [if_neg h,if_neg h]
   refine ⟨rfl,fun _=>?_⟩
   rw [if_neg (show ¬ 120 < lastLen R+(Node.mk 2 0 [] t [] []).text.length from h)];rfl
 ·have ht':isTx R=false:=by simpa using ht
  rw [if_pos (show (2:Int)=3∨isTx R=false from .inr ht'),if_neg ht]
  unfold putR
  by_cases h1:R.length=11
  ·rw [if_pos (show 10 < R.length by omega),if_pos h1];exact ⟨rfl,fun h=>by simp at h⟩
  rw [if_neg (show ¬ 10 < R.length by omega),if_neg h1]
  by_cases h2:60 < c+1
  ·rw [if_pos h2,if_pos h2];exact ⟨rfl,fun h=>by simp at h⟩
  rw [if_neg h2,if_neg h2,putQ_R (fun h=>ht h.2) h1 h2]
  exact ⟨rfl,fun _=>rfl⟩
theorem commQ_R {R:List Node} {c:Int} {t:Str} (hI:InvR R c):(wordsQ R c 3 t).2.2=(putR R c (.mk 3 0 [] t [] [])).2.2∧((putR R c (.mk 3 0 [] t [] [])).2.2=0→wordsQ R c 3 t=putR R c (.mk 3 0 [] t [] [])):=by
 have hl:=hI.2.1
 unfold wordsQ
 rw [if_pos (show (3:Int)=3∨isTx R=false from .inl rfl)]
 unfold putR
 by_cases h1:R.length=11
 ·rw [if_pos (show 10 < R.length by omega),if_pos h1];exact ⟨rfl,fun h=>by simp at h⟩
 rw [if_neg (show ¬ 10 < R.length by omega),if_neg h1]
 by_cases h2:60 < c+1
 ·rw [if_pos h2,if_pos h2];exact ⟨rfl,fun h=>by simp at h⟩
 rw [if_neg h2,if_neg h2,putQ_R (fun h=>by cases h.1) h1 h2]
 exact ⟨rfl,fun _=>rfl⟩
theorem openQ_R {R:List Node} {c:Int} {tk:Tokn} (hI:InvR R c):(openQ R c tk).2.2=(opensR R c tk).2.2∧((opensR R c tk).2.2=0→openQ R c tk=opensR R c tk):=by
 have hs:=stkL hI.1
 have hlt:(stkR R).length - stayN (stkR R) tk.name < R.length:=by omega
 have hq:=inv_pops hlt hI
 have hl:=hq.2.1
 unfold openQ opensR
 simp only
 generalize hx:Node.mk 1 (spaceN (stkR R) tk.name (stayN (stkR R) tk.name)) tk.name [] tk.attrs []=x
 have hxk:x.kind=1:=by rw [← hx];rfl
 have hxt:x.text=[]:=by rw [← hx];rfl
 generalize popsR ((stkR R).length - stayN (stkR R) tk.name) R=Q at *
 generalize spaceN (stkR R) tk.name (stayN (stkR R) tk.name)=sp at *
 have hp:putR Q c x=if Q.length=11 then (Q,c+1,11) else if 60 < c+1 then (Q,c+1,6) else (addR x Q,c+1,0):=by
  unfold putR
  rw [hxt]
  by_cases h1:Q.length=11
  ·rw [if_pos h1,if_pos h1]
  rw [if_neg h1,if_neg h1]
  by_cases h2:60 < c+1
  ·rw [if_pos h2,if_pos h2]
  rw [if_neg h2,if_neg h2];rfl
 rw [hp]
 by_cases h1:Q.length=11
 ·rw [if_pos (show 10 < Q.length by omega),if_pos h1]
  simp only
  rw [if_pos (show (11:Int)≠0 by decide)]
  exact ⟨rfl,fun h=>by simp at h⟩
 rw [if_neg (show ¬ 10 < Q.length by omega),if_neg h1]
 by_cases h2:60 < c+1
 ·rw [if_pos h2,if_pos h2]
  simp only
  rw [if_pos (show (6:Int)≠0 by decide)]
  exact ⟨rfl,fun h=>by simp at h⟩
 rw [if_neg h2,if_neg h2]
 simp only
 rw [if_neg (show ¬ (0:Int)≠0 by decide),putQ_R (fun h=>by rw [hxk] at h;cases h.1) h1 h2,hxt,if_neg (show ¬ 120 < ([]:Str).length by simp)]
 exact ⟨rfl,fun _=>rfl⟩
theorem takeQ_R {R:List Node} {c:Int} {tk:Tokn} {raw:Str} (hI:InvR R c):(takeQ R c tk raw).2.2=(takeR R c tk raw).2.2∧((takeR R c tk raw).2.2=0→takeQ R c tk raw=takeR R c tk raw):=by
 unfold takeQ takeR
 by_cases h1:tk.kind=1
 ·rw [if_neg (show ¬ (raw≠[]∧tk.kind≠1) from fun h=>h.2 h1),if_pos h1,if_pos h1]
  exact wordsQ_R hI
 rw [if_neg h1,if_neg h1]
 by_cases h2:raw≠[]
 ·rw [if_pos (And.intro h2 h1),if_pos h2];exact ⟨rfl,fun _=>rfl⟩
 rw [if_neg (show ¬ (raw≠[]∧tk.kind≠1) from fun h=>h2 h.1),if_neg h2]
 by_cases h3:tk.kind=4
 ·rw [if_pos h3,if_pos h3];exact commQ_R hI
 rw [if_neg h3,if_neg h3]
 by_cases h4:tk.kind=2
 ·rw [if_pos h4,if_pos h4];exact openQ_R hI
 rw [if_neg h4,if_neg h4]
 exact ⟨rfl,fun _=>rfl⟩
noncomputable def sp_buildQ:Spec:=⟨[.sc],[.rd],false,fun
 | [.str t]=>some (some (t.length≤524000),.tup [.own true ⟨.node,(buildR t).1⟩,.int .i64 (buildR t).2],[])
 | _=>none⟩
@[push_cast] theorem sp_buildQ_s:sp_buildQ.ps=[.sc]∧sp_buildQ.modes=[.rd]∧sp_buildQ.pure=false:=⟨rfl,rfl,rfl⟩
@[push_cast] theorem sp_buildQ_run (t:Str):sp_buildQ.run [.str t]=some (some (t.length≤524000),.tup [.own true ⟨.node,(buildR t).1⟩,.int .i64 (buildR t).2],[]):=rfl
noncomputable def e_buildQ:Env:=mk [(63,sp_rawQ),(64,sp_next),(65,sp_popQ),(66,sp_wordsQ),(67,sp_openQ),(68,sp_closeAt)] [(17,[],[(true,[0,1,2,3,4,5,6,7],[])]),(21,[0],[(true,[0,1,2,3,4,5,6],[[],[0],[0],[0],[0]])])] [(5,[.nib .opn 4 0]),(2,[.drp 97])] [] none
@[push_cast] theorem e_buildQ_e:MkE e_buildQ [(63,sp_rawQ),(64,sp_next),(65,sp_popQ),(66,sp_wordsQ),(67,sp_openQ),(68,sp_closeAt)] [(17,[],[(true,[0,1,2,3,4,5,6,7],[])]),(21,[0],[(true,[0,1,2,3,4,5,6],[[],[0],[0],[0],[0]])])] [(5,[.nib .opn 4 0]),(2,[.drp 97])] [] none:=⟨rfl,rfl,rfl,rfl,rfl,rfl,rfl⟩
theorem c_buildQ:CRow P0 ety0 29 sp_buildQ:=CRow.of (E:=e_buildQ) (mkOk (.cons c_rawQ (.cons c_next2 (.cons c_popQ (.cons c_wordsQ (.cons c_openQ (.cons c_closeAt2 (.nil)))))))) func29 rfl rfl rfl (by
 intro args p r outs h hq
 simp only [sp_buildQ] at h;split at h<;>cases h
 rename_i t
 have hz:=hq _ rfl
 refine Body.intro (rs:=[.tmp 2,.tmp 3]) rfl rfl rfl ?_
 apply vc_run 1000 (stop:=false) rfl;simp only [push_cast,simprocAttr]
 refine Run.loop [5] [0,4] [1] rfl (fun n vs bs=>∃ (i f:Nat) (R:List Node) (c e:Int),vs=[.int .i64 i]∧bs=[[.own true ⟨.opn,stkR R⟩,.own true ⟨.node,R.reverse⟩,.int .i64 c,.int .i64 e]]∧i≤t.length∧(e=0→InvR R c∧t.length - i < f∧runR t (t.length+1) 0 R0 0=runR t f i R c)∧(e≠0→(runR t (t.length+1) 0 R0 0).2.2=e)∧n=t.length - i) t.length ?_ ?_
 ·simp only [push_cast,simprocAttr]
  exact ⟨0,t.length+1,R0,0,0,rfl,rfl,Nat.zero_le _,fun _=>⟨inv_R0,by omega,rfl⟩,fun h=>absurd rfl h,by omega⟩
 rintro n vs bs ⟨i,f,R,c,e,rfl,rfl,hi,he0,he1,rfl⟩
 by_cases hez:e=0
 ·subst hez
  obtain ⟨hI,hf,hrun⟩:=he0 rfl
  clear he0 he1
  simp only [push_cast,simprocAttr]
  apply vc_run 1000 (stop:=false) rfl;simp only [push_cast,simprocAttr]
  simp only [Int.toNat_natCast,List.reverse_reverse]
  obtain ⟨f,rfl⟩:∃ g,f=g+1:=⟨f - 1,by omega⟩
  have hst:runR t (f+1) i R c=if i < t.length then
    if (takeR R c (nextS t i (rawI (stkR R))) (rawI (stkR R))).2.2≠0 then takeR R c (nextS t i (rawI (stkR R))) (rawI (stkR R))
    else runR t f (i+(nextS t i (rawI (stkR R))).len.toNat) (takeR R c (nextS t i (rawI (stkR R))) (rawI (stkR R))).1 (takeR R c (nextS t i (rawI (stkR R))) (rawI (stkR R))).2.1
   else (R,c,0):=rfl
  rw [hst] at hrun
  clear hst
  have hrl:=rawI_len (stkR R)
  have hrn:=rawI_ne hI.1
  generalize rawI (stkR R)=raw at *
  have htx:=next_text t raw i
  have hln:=fun h=>next_len (t:=t) (raw:=raw) (i:=i) h
  have hit:=fun h0=>inv_take (tk:=nextS t i raw) (raw:=raw) hI hrn h0
  have hqr:=takeQ_R (c:=c) (tk:=nextS t i raw) (raw:=raw) hI
  obtain ⟨i1,i2,i3⟩:=inv_len hI
  have hs:=stkL hI.1
  refine ⟨fun h=>?_,fun h=>?_⟩
  ·have hlt:i < t.length:=by
    cases hd:decide ((i:Int) < (t.length:Int)) with
    | false=>rw [hd] at h;cases h
    | true=>have:=of_decide_eq_true hd;omega
   obtain ⟨l1,l2⟩:=hln hlt
   rw [if_pos hlt] at hrun
   have fin:∀ (R':List Node) (c' e':Int),takeQ R c (nextS t i raw) raw=(R',c',e')→∃ j,j < t.length - i∧∃ (i1 f:Nat) (R1:List Node) (c1 e:Int),[AV.int .i64 ((i:Int)+(nextS t i raw).len)]=[.int .i64 (i1:Int)] ∧
     [[AV.own true ⟨.opn,stkR R'⟩,.own true ⟨.node,R'.reverse⟩,.int .i64 c',.int .i64 e']]=[[.own true ⟨.opn,stkR R1⟩,.own true ⟨.node,R1.reverse⟩,.int .i64 c1,.int .i64 e]]∧i1≤t.length ∧
     (e=0→InvR R1 c1∧t.length - i1 < f∧runR t (t.length+1) 0 R0 0=runR t f i1 R1 c1)∧(e≠0→(runR t (t.length+1) 0 R0 0).2.2=e)∧j=t.length - i1:=by
    intro R' c' e' hq'
    rw [hq'] at hqr
    refine ⟨_,?_,i+(nextS t i raw).len.toNat,f,R',c',e',by rw [show (i:Int)+(nextS t i raw).len=((i+(nextS t i raw).len.toNat:Nat):Int) by omega],rfl,by omega,fun g=>?_,fun g=>?_,rfl⟩
    ·omega
    ·subst g
     have g:=hqr.1.symm
     have g2:=hqr.2 g
     rw [if_neg (by simpa using g),← g2] at hrun
     have:=hit g
     rw [← g2] at this
     exact ⟨this,by omega,hrun⟩
    ·have g2:=hqr.1
     simp only at g2
     rw [if_pos (by rw [← g2];exact g)] at hrun
     rw [hrun];exact g2.symm
   refine ⟨by omega,⟨by omega,by omega,by omega,hz⟩,by constructor<;>omega,fun g=>?_,fun g=>⟨fun g1=>?_,fun g1=>⟨fun g2=>?_,fun g2=>⟨fun g3=>?_,fun g3=>⟨fun g4=>?_,fun g4=>?_⟩⟩⟩⟩⟩
   ·have hb:raw≠[]∧(nextS t i raw).kind≠1:=by
     cases h1:decide (raw=[])<;>cases h2:decide ((nextS t i raw).kind=1)<;>rw [h1] at g<;>try rw [h2] at g
     all_goals first | exact ⟨of_decide_eq_false h1,of_decide_eq_false h2⟩ | cases g
    have h2:=hrn hb.1
    have hp:(stkR R).length - ((↑(stkR R).length:Int) - 1).toNat=1:=by omega
    rw [hp]
    refine ⟨by constructor<;>omega,⟨by omega,hI,trivial⟩,fin _ _ _ ?_⟩
    unfold takeQ
    rw [if_pos hb];rfl
   ·have hk:=of_decide_eq_true g1
    refine ⟨⟨hI,by omega,.inl trivial⟩,?_⟩
    have:=fin (wordsQ R c 2 (nextS t i raw).text).1 (wordsQ R c 2 (nextS t i raw).text).2.1 (wordsQ R c 2 (nextS t i raw).text).2.2 (by
     unfold takeQ
     rw [if_neg (fun h=>h.2 hk),if_pos hk])
    rw [stk_words hI.1] at this
    exact this
   all_goals have hk1:=of_decide_eq_false g1
   all_goals have hr:=raw_e g g1
   ·have hk:=of_decide_eq_true g2
    refine ⟨⟨hI,by omega,.inr trivial⟩,?_⟩
    have:=fin (wordsQ R c 3 (nextS t i raw).text).1 (wordsQ R c 3 (nextS t i raw).text).2.1 (wordsQ R c 3 (nextS t i raw).text).2.2 (by
     unfold takeQ
     rw [if_neg (fun h=>h.1 hr),if_neg hk1,if_pos hk])
    rw [stk_words hI.1] at this
    exact this
   all_goals have hk2:=of_decide_eq_false g2
   ·have hk:=of_decide_eq_true g3
    refine ⟨⟨hI,trivial⟩,fin _ _ _ ?_⟩
    unfold takeQ
    rw [if_neg (fun h=>h.1 hr),if_neg hk1,if_neg hk2,if_pos hk]
   all_goals have hk3:=of_decide_eq_false g3
   ·have hk:=of_decide_eq_true g4
    have hcl:takeQ R c (nextS t i raw) raw=(closesR R (nextS t i raw).name,c,0):=by
     unfold takeQ
     rw [if_neg (fun h=>h.1 hr),if_neg hk1,if_neg hk2,if_neg hk3,if_pos hk]
    refine ⟨by omega,fun h5=>?_,fun h5=>?_⟩
    ·have h5:=of_decide_eq_true h5
     refine ⟨⟨h5,hI,trivial⟩,fin _ _ _ ?_⟩
     rw [hcl]
     unfold closesR
     rw [if_neg (by omega)]
     congr 3
     omega
    ·have h5:=of_decide_eq_false h5
     refine fin _ _ _ ?_
     rw [hcl]
     unfold closesR
     rw [if_pos (by omega)]
   ·have hk4:=of_decide_eq_false g4
    refine fin _ _ _ ?_
    unfold takeQ
    rw [if_neg (fun h=>h.1 hr),if_neg hk1,if_neg hk2,if_neg hk3,if_neg hk4]
  ·have hge:¬ i < t.length:=by
    cases hd:decide ((i:Int) < (t.length:Int)) with
    | true=>rw [hd] at h;cases h
    | false=>have:=of_decide_eq_false hd;omega
   rw [if_neg hge] at hrun
   have hB:buildR t=(((popsR (R.length - 1) R).headD nodeD).kids,0):=by
    unfold buildR
    rw [hrun,if_neg (by simp)]
   rw [hB,show (stkR R).length - 0=R.length - 1 by omega]
   have hpl:=popsR_len (R.length - 1) R (by omega)
   refine ⟨fun f=>f.elim,⟨hI,trivial⟩,?_⟩
   match hp:popsR (R.length - 1) R,hpl with
   | [],hpl=>simp at hpl;omega
   | [z],_=>exact ⟨by simp,rfl⟩
   | x :: y :: r,hpl=>simp at hpl;omega
 ·simp only [push_cast,simprocAttr]
  apply vc_run 1000 (stop:=false) rfl;simp only [push_cast,simprocAttr]
  have hD:decide (e=0)=false:=decide_eq_false hez
  refine ⟨fun h=>?_,fun h=>?_⟩
  ·rw [hD] at h
   cases hd:decide ((i:Int) < (t.length:Int))<;>rw [hd] at h<;>cases h
  have hB:buildR t=([],e):=by
   unfold buildR
   rw [if_pos (by rw [he1 hez];exact hez),he1 hez]
  rw [hB,hD]
  exact ⟨fun _=>rfl,fun h=>by cases h⟩)
end Go.Ab
