import Derived.Test.YtjnachnjfdgpgaaGreatDoorPlBld
import Derived.Test.YtjnachnjfdgpgaaGreatDoorFnBc
set_option linter.all false
set_option maxRecDepth 20000
set_option maxHeartbeats 1000000
namespace Go.Ab
open Go Go.Proofs.Tryz
open Go.Lib
noncomputable def sp_isOutS:Spec:=⟨[.sc],[.rd],true,fun
 | [.str m]=>some (none,.bool (isOutS m),[])
 | _=>none⟩
@[push_cast] theorem sp_isOutS_s:sp_isOutS.ps=[.sc]∧sp_isOutS.modes=[.rd]∧sp_isOutS.pure=true:=⟨rfl,rfl,rfl⟩
@[push_cast] theorem sp_isOutS_run (m:Str):sp_isOutS.run [.str m]=some (none,.bool (isOutS m),[]):=rfl
noncomputable def e_isOutS:Env:=mk [(166,sp_hasS)] [] [] [] none
@[push_cast] theorem e_isOutS_e:MkE e_isOutS [(166,sp_hasS)] [] [] [] none:=⟨rfl,rfl,rfl,rfl,rfl,rfl,rfl⟩
theorem c_isOutS:CRow P0 ety0 241 sp_isOutS:=CRow.of (E:=e_isOutS) (mkOk (.cons c_hasS (.nil))) func241 rfl rfl rfl (by
 intro args p r outs h hq
 simp only [sp_isOutS] at h;split at h<;>cases h
 rename_i m
 refine Body.intro (rs:=[.tmp 2]) rfl rfl rfl ?_
 apply vc_run 1000 (stop:=false) rfl;simp only [push_cast,simprocAttr]
 rfl)
noncomputable def e_isOutS2:Env:=mk [(89,sp_hasS)] [] [] [] none
@[push_cast] theorem e_isOutS2_e:MkE e_isOutS2 [(89,sp_hasS)] [] [] [] none:=⟨rfl,rfl,rfl,rfl,rfl,rfl,rfl⟩
theorem c_isOutS2:CRow P0 ety0 191 sp_isOutS:=CRow.of (E:=e_isOutS2) (mkOk (.cons c_hasS2 (.nil))) func191 rfl rfl rfl (by
 intro args p r outs h hq
 simp only [sp_isOutS] at h;split at h<;>cases h
 rename_i m
 refine Body.intro (rs:=[.tmp 2]) rfl rfl rfl ?_
 apply vc_run 1000 (stop:=false) rfl;simp only [push_cast,simprocAttr]
 rfl)
noncomputable def sp_spaceS:Spec:=⟨[.sc],[.rd],true,fun
 | [.str m]=>some (none,.int .i64 (spaceS m),[])
 | _=>none⟩
@[push_cast] theorem sp_spaceS_s:sp_spaceS.ps=[.sc]∧sp_spaceS.modes=[.rd]∧sp_spaceS.pure=true:=⟨rfl,rfl,rfl⟩
@[push_cast] theorem sp_spaceS_run (m:Str):sp_spaceS.run [.str m]=some (none,.int .i64 (spaceS m),[]):=rfl
noncomputable def e_spaceS:Env:=mk [] [] [] [] none
@[push_cast] theorem e_spaceS_e:MkE e_spaceS [] [] [] [] none:=⟨rfl,rfl,rfl,rfl,rfl,rfl,rfl⟩
theorem c_spaceS:CRow P0 ety0 242 sp_spaceS:=CRow.of (E:=e_spaceS) (mkOk (.nil)) func242 rfl rfl rfl (by
 intro args p r outs h hq
 simp only [sp_spaceS] at h;split at h<;>cases h
 rename_i m
 refine Body.intro (rs:=[.tmp 2]) rfl rfl rfl ?_
 apply vc_run 1000 (stop:=false) rfl;simp only [push_cast,simprocAttr]
 unfold spaceS
 refine ⟨fun h=>?_,fun h=>⟨fun h2=>?_,fun h2=>?_⟩⟩
 ·rw [if_pos (of_decide_eq_true h)]
 ·rw [if_neg (of_decide_eq_false h),if_pos (of_decide_eq_true h2)]
 ·rw [if_neg (of_decide_eq_false h),if_neg (of_decide_eq_false h2)])
noncomputable def e_spaceS2:Env:=mk [] [] [] [] none
@[push_cast] theorem e_spaceS2_e:MkE e_spaceS2 [] [] [] [] none:=⟨rfl,rfl,rfl,rfl,rfl,rfl,rfl⟩
theorem c_spaceS2:CRow P0 ety0 192 sp_spaceS:=CRow.of (E:=e_spaceS2) (mkOk (.nil)) func192 rfl rfl rfl (by
 intro args p r outs h hq
 simp only [sp_spaceS] at h;split at h<;>cases h
 rename_i m
 refine Body.intro (rs:=[.tmp 2]) rfl rfl rfl ?_
 apply vc_run 1000 (stop:=false) rfl;simp only [push_cast,simprocAttr]
 unfold spaceS
 refine ⟨fun h=>?_,fun h=>⟨fun h2=>?_,fun h2=>?_⟩⟩
 ·rw [if_pos (of_decide_eq_true h)]
 ·rw [if_neg (of_decide_eq_false h),if_pos (of_decide_eq_true h2)]
 ·rw [if_neg (of_decide_eq_false h),if_neg (of_decide_eq_false h2)])
theorem opn_bif (st:List Opn) (n:Nat) (m:Str):(bif decide (0 < (n:Int)) then decide ((gd st opnD ((n:Int) - 1)).name=m)&&decide ((gd st opnD ((n:Int) - 1)).space=0) else false)=isOpn st n m:=by
 unfold isOpn
 cases n with
 | zero=>rfl
 | succ p =>
  rw [show ((p+1:Nat):Int) - 1=(p:Int) by omega,gd_nat,decide_eq_true (show (0:Int) < ((p+1:Nat):Int) by omega),decide_eq_true (show 0 < p+1 by omega),Nat.add_sub_cancel]
  rfl
theorem brk_go {st:List Opn} {b:Bool} {n:Nat} (h:(bif bif b then decide (0 < (n:Int)) else false then !decide ((gd st opnD ((n:Int) - 1)).space=0) else false)=true):0 < n∧brkN st b n=brkN st b (n - 1):=by
 cases b with
 | false=>cases h
 | true =>
  cases n with
  | zero=>cases h
  | succ p =>
   refine ⟨by omega,?_⟩
   rw [show ((p+1:Nat):Int) - 1=(p:Int) by omega,gd_nat,decide_eq_true (show (0:Int) < ((p+1:Nat):Int) by omega)] at h
   rw [brkN,if_pos ⟨rfl,by simpa using h⟩,Nat.add_sub_cancel]
theorem brk_no {st:List Opn} {b:Bool} {n:Nat} (h:(bif bif b then decide (0 < (n:Int)) else false then !decide ((gd st opnD ((n:Int) - 1)).space=0) else false)=false):brkN st b n=n:=by
 cases n with
 | zero=>rfl
 | succ p =>
  rw [brkN,if_neg]
  rintro ⟨rfl,h2⟩
  rw [show ((p+1:Nat):Int) - 1=(p:Int) by omega,gd_nat,decide_eq_true (show (0:Int) < ((p+1:Nat):Int) by omega)] at h
  have h:(!decide ((st.getD p opnD).space=0))=false:=h
  exact h2 (by simpa using h)
theorem sp_fin {st:List Opn} {m:Str} {N:Nat} (hN:stayN st m=N) (hl:N≤st.length) (hz:st.length≤1073741824) :
  ((bif decide (spaceS m=0) then decide (0 < (N:Int)) else false)=true→i64ok ((N:Int) - 1)∧(0≤(N:Int) - 1∧(N:Int) - 1 < (st.length:Nat)) ∧
    AV.tup [.int .i64 (N:Int),.int .i64 (gd st opnD ((N:Int) - 1)).space]=.tup [.int .i64 (stayN st m:Nat),.int .i64 (spaceN st m (stayN st m))]) ∧
  ((bif decide (spaceS m=0) then decide (0 < (N:Int)) else false)=false→AV.tup [.int .i64 (N:Int),.int .i64 (spaceS m)]=.tup [.int .i64 (stayN st m:Nat),.int .i64 (spaceN st m (stayN st m))]):=by
 rw [hN]
 unfold spaceN
 constructor
 ·intro h
  obtain ⟨h1,h2⟩:spaceS m=0∧0 < N:=by
   cases hd:decide (spaceS m=0) with
   | false=>rw [hd] at h;cases h
   | true=>rw [hd] at h;have:=of_decide_eq_true h;exact ⟨of_decide_eq_true hd,by omega⟩
  rw [if_pos ⟨h1,h2⟩,show (N:Int) - 1=((N - 1:Nat):Int) by omega,gd_nat]
  exact ⟨by constructor<;>omega,⟨by omega,by omega⟩,rfl⟩
 ·intro h
  rw [if_neg]
  rintro ⟨h1,h2⟩
  rw [decide_eq_true h1,decide_eq_true (show (0:Int) < (N:Nat) by omega)] at h
  cases h
noncomputable def sp_implied:Spec:=⟨[.sl .opn,.sc],[.rd,.rd],true,fun
 | [.dat ⟨.opn,st⟩,.str m]=>some (some (st.length≤1073741824),.tup [.int .i64 (stayN st m:Nat),.int .i64 (spaceN st m (stayN st m))],[])
 | _=>none⟩
@[push_cast] theorem sp_implied_s:sp_implied.ps=[.sl .opn,.sc]∧sp_implied.modes=[.rd,.rd]∧sp_implied.pure=true:=⟨rfl,rfl,rfl⟩
@[push_cast] theorem sp_implied_run (st:List Opn) (m:Str):sp_implied.run [.dat ⟨.opn,st⟩,.str m]=some (some (st.length≤1073741824),.tup [.int .i64 (stayN st m:Nat),.int .i64 (spaceN st m (stayN st m))],[]):=rfl
noncomputable def e_implied:Env:=mk [(241,sp_isOutS),(166,sp_hasS),(242,sp_spaceS)] [] [] [] none
@[push_cast] theorem e_implied_e:MkE e_implied [(241,sp_isOutS),(166,sp_hasS),(242,sp_spaceS)] [] [] [] none:=⟨rfl,rfl,rfl,rfl,rfl,rfl,rfl⟩
theorem c_implied:CRow P0 ety0 204 sp_implied:=CRow.of (E:=e_implied) (mkOk (.cons c_isOutS (.cons c_hasS (.cons c_spaceS (.nil))))) func204 rfl rfl rfl (by
 intro args p r outs h hq
 simp only [sp_implied] at h;split at h<;>cases h
 rename_i st m
 have hz:=hq _ rfl
 refine Body.intro (rs:=[.tmp 4,.tmp 5]) rfl rfl rfl ?_
 apply vc_run 1000 (stop:=false) rfl;simp only [push_cast,simprocAttr]
 refine Run.loop [6] [0,1] [] rfl (fun n vs bs=>∃ k:Nat,vs=[.int .i64 k]∧bs=[]∧k≤st.length∧brkN st (isOutS m) st.length=brkN st (isOutS m) k∧n=k) st.length ?_ ?_
 ·simp only [push_cast,simprocAttr]
  exact ⟨st.length,rfl,Nat.le_refl _,rfl,rfl⟩
 rintro n vs bs ⟨k,rfl,rfl,hk,hb,rfl⟩
 simp only [push_cast,simprocAttr]
 apply vc_run 1000 (stop:=false) rfl;simp only [push_cast,simprocAttr]
 have eo:=opn_bif st n [112]
 have hes:hasS [[112],[100,105,118],[117,108],[116,97,98,108,101],[104,49]] m=hasS endsL m:=rfl
 have band:∀ a b:Bool,(bif a then b else false)=(a&&b):=fun a b=>by cases a<;>rfl
 simp only [eo,hes]
 refine ⟨fun h=>?_,fun h=>?_,fun hy=>?_,fun hn=>?_⟩
 ·have:0 < n:=by
   cases ho:isOutS m with
   | false=>rw [ho] at h;cases h
   | true=>rw [ho] at h;have:=of_decide_eq_true h;omega
  constructor<;>omega
 ·have:0 < n:=by
   cases ho:isOutS m with
   | false=>rw [ho] at h;cases h
   | true=>rw [ho] at h;have:=of_decide_eq_true h;omega
  omega
 ·obtain ⟨h0,h1⟩:=brk_go hy
  exact ⟨by constructor<;>omega,n - 1,by omega,n - 1,by rw [show (n:Int) - 1=((n - 1:Nat):Int) by omega],by omega,by rw [hb,h1],rfl⟩
 have hbn:=brk_no hn
 rw [hbn] at hb
 clear hn
 have hs:stayN st m=liN st m (pN st m n):=by unfold stayN;rw [hb]
 have lev:∀ N:Nat,N≤st.length→stayN st m=liN st m N →
   (decide (0 < (N:Int))=true→i64ok ((N:Int) - 1))∧(decide (0 < (N:Int))=true→0≤(N:Int) - 1∧(N:Int) - 1 < (st.length:Nat)) ∧
   ((bif isOpn st N [108,105] then decide (m=[108,105]) else false)=true→i64ok ((N:Int) - 1)∧stayN st m=N - 1∧0 < N) ∧
   ((bif isOpn st N [108,105] then decide (m=[108,105]) else false)=false→stayN st m=N):=fun N hN hs=>by
  refine ⟨fun h=>by have:=of_decide_eq_true h;constructor<;>omega,fun h=>by have:=of_decide_eq_true h;omega,fun h=>?_,fun h=>?_⟩
  ·rw [band] at h
   have h0:0 < N:=by
    have:=(Bool.and_eq_true _ _ ▸ h:_∧_).1
    unfold isOpn at this
    exact of_decide_eq_true (Bool.and_eq_true _ _ ▸ this:_∧_).1
   exact ⟨by constructor<;>omega,by rw [hs];unfold liN;rw [if_pos h],h0⟩
  ·rw [band] at h
   rw [hs];unfold liN;rw [if_neg (by rw [h];simp)]
 refine ⟨fun h=>by have:=of_decide_eq_true h;constructor<;>omega,fun h=>by have:=of_decide_eq_true h;omega,fun h=>?_,fun h=>?_⟩
 ·rw [band] at h
  have h0:0 < n:=by
   have:=(Bool.and_eq_true _ _ ▸ h:_∧_).1
   unfold isOpn at this
   exact of_decide_eq_true (Bool.and_eq_true _ _ ▸ this:_∧_).1
  have hp:pN st m n=n - 1:=by unfold pN;rw [if_pos h]
  rw [hp] at hs
  obtain ⟨l1,l2,l3,l4⟩:=lev (n - 1) (by omega) hs
  have eo2:=opn_bif st (n - 1) [108,105]
  have e1:(n:Int) - 1=((n - 1:Nat):Int):=by omega
  simp only [e1,eo2]
  refine ⟨by constructor<;>omega,l1,l2,fun h2=>?_,fun h2=>sp_fin (l4 h2) (by omega) hz⟩
  obtain ⟨g1,g2,g3⟩:=l3 h2
  have e2:((n - 1:Nat):Int) - 1=((n - 1 - 1:Nat):Int):=by omega
  simp only [e2]
  exact ⟨by constructor<;>omega,sp_fin g2 (by omega) hz⟩
 ·rw [band] at h
  have hp:pN st m n=n:=by unfold pN;rw [if_neg (by rw [h];simp)]
  rw [hp] at hs
  obtain ⟨l1,l2,l3,l4⟩:=lev n hk hs
  have eo2:=opn_bif st n [108,105]
  simp only [eo2]
  refine ⟨l1,l2,fun h2=>?_,fun h2=>sp_fin (l4 h2) hk hz⟩
  obtain ⟨g1,g2,g3⟩:=l3 h2
  have e2:(n:Int) - 1=((n - 1:Nat):Int):=by omega
  simp only [e2]
  exact ⟨by constructor<;>omega,sp_fin g2 (by omega) hz⟩)
noncomputable def sp_rawI:Spec:=⟨[.sc],[.io],false,fun
 | [.pb [.own true ⟨.opn,st⟩,.own true ⟨.nodes,ls⟩,.int .i64 c]]=>some (some (st.length≤1073741824),.str (rawI st),[.pb [.own true ⟨.opn,st⟩,.own true ⟨.nodes,ls⟩,.int .i64 c]])
 | _=>none⟩
@[push_cast] theorem sp_rawI_s:sp_rawI.ps=[.sc]∧sp_rawI.modes=[.io]∧sp_rawI.pure=false:=⟨rfl,rfl,rfl⟩
@[push_cast] theorem sp_rawI_run (st:List Opn) (ls:List (List Node)) (c:Int):sp_rawI.run [.pb [.own true ⟨.opn,st⟩,.own true ⟨.nodes,ls⟩,.int .i64 c]]=some (some (st.length≤1073741824),.str (rawI st),[.pb [.own true ⟨.opn,st⟩,.own true ⟨.nodes,ls⟩,.int .i64 c]]):=rfl
noncomputable def e_rawI:Env:=mk [(125,sp_isRawS)] [] [] [] none
@[push_cast] theorem e_rawI_e:MkE e_rawI [(125,sp_isRawS)] [] [] [] none:=⟨rfl,rfl,rfl,rfl,rfl,rfl,rfl⟩
theorem c_rawI:CRow P0 ety0 72 sp_rawI:=CRow.of (E:=e_rawI) (mkOk (.cons c_isRawS (.nil))) func72 rfl rfl rfl (by
 intro args p r outs h hq
 simp only [sp_rawI] at h;split at h<;>cases h
 rename_i st ls c
 have hz:=hq _ rfl
 refine Body.intro (rs:=[.tmp 2]) rfl rfl rfl ?_
 apply vc_run 1000 (stop:=false) rfl;simp only [push_cast,simprocAttr]
 unfold rawI
 cases hn:st.length with
 | zero =>
  refine ⟨fun h=>(by cases h),fun h=>(by cases h),fun h=>(by cases h),fun h=>(by cases h),fun h=>(by cases h),fun h=>?_⟩
  rw [if_neg (by omega)]
 | succ p =>
  have e:((p+1:Nat):Int) - 1=(p:Int):=by omega
  have d0:decide ((0:Int) < ((p+1:Nat):Int))=true:=decide_eq_true (by omega)
  simp only [e,gd_nat,d0,Nat.add_sub_cancel,cond_true]
  refine ⟨fun _=>by constructor<;>omega,fun _=>by omega,fun _=>by constructor<;>omega,fun _=>by omega,fun h=>⟨by constructor<;>omega,by omega,?_⟩,fun h=>?_⟩
  ·cases hd:decide ((st.getD p opnD).space=0) with
   | false=>rw [hd] at h;cases h
   | true=>rw [hd] at h;rw [if_pos ⟨by omega,of_decide_eq_true hd,h⟩]
  ·rw [if_neg]
   rintro ⟨_,h1,h2⟩
   rw [decide_eq_true h1,h2] at h
   cases h)
noncomputable def sp_endI:Spec:=⟨[.sc],[.io],false,fun
 | [.pb [.own true ⟨.opn,st⟩,.own true ⟨.nodes,ls⟩,.int .i64 c]]=>some (some (0 < st.length∧ls.length=st.length+1∧ls.getD (st.length - 1) []≠[]∧st.length≤1000∧(ls.getD (st.length - 1) []).length≤1000),.tup [],[.pb [.own true ⟨.opn,(endI ⟨st,ls,c⟩).st⟩,.own true ⟨.nodes,(endI ⟨st,ls,c⟩).ls⟩,.int .i64 c]])
 | _=>none⟩
@[push_cast] theorem sp_endI_s:sp_endI.ps=[.sc]∧sp_endI.modes=[.io]∧sp_endI.pure=false:=⟨rfl,rfl,rfl⟩
@[push_cast] theorem sp_endI_run (st:List Opn) (ls:List (List Node)) (c:Int):sp_endI.run [.pb [.own true ⟨.opn,st⟩,.own true ⟨.nodes,ls⟩,.int .i64 c]]=some (some (0 < st.length∧ls.length=st.length+1∧ls.getD (st.length - 1) []≠[]∧st.length≤1000∧(ls.getD (st.length - 1) []).length≤1000),.tup [],[.pb [.own true ⟨.opn,(endI ⟨st,ls,c⟩).st⟩,.own true ⟨.nodes,(endI ⟨st,ls,c⟩).ls⟩,.int .i64 c]]):=rfl
theorem getD_take {α:Type} {l:List α} {n k:Nat} (d:α) (h:k < n):(l.take n).getD k d=l.getD k d:=by
 simp only [List.getD,List.getElem?_take,if_pos h]
noncomputable def e_endI:Env:=mk [] [(2,[8,14,17,20],[(true,[0,1,2,3,4,5,6,7,8,9,10,11,12,13,14,15,16,17,18,19,20],[[1,2],[1,2,3],[],[],[],[],[],[],[],[0],[0],[0],[0],[0],[],[1],[1]]),(false,[0,1,2,3,4,5,6,7,9,10,11,12,13,8,15,16,17,14,18,19,20],[[1],[1,2,3],[],[],[],[],[],[],[1],[1],[1],[1],[1,2]]),(false,[0,1,2,3,4,5,6,7,9,10,11,12,13,14,8,15,16,17,18,19,20],[[1,2],[1,2,3],[1],[1],[1],[1],[1],[1]])])] [] [] none
@[push_cast] theorem e_endI_e:MkE e_endI [] [(2,[8,14,17,20],[(true,[0,1,2,3,4,5,6,7,8,9,10,11,12,13,14,15,16,17,18,19,20],[[1,2],[1,2,3],[],[],[],[],[],[],[],[0],[0],[0],[0],[0],[],[1],[1]]),(false,[0,1,2,3,4,5,6,7,9,10,11,12,13,8,15,16,17,14,18,19,20],[[1],[1,2,3],[],[],[],[],[],[],[1],[1],[1],[1],[1,2]]),(false,[0,1,2,3,4,5,6,7,9,10,11,12,13,14,8,15,16,17,18,19,20],[[1,2],[1,2,3],[1],[1],[1],[1],[1],[1]])])] [] [] none:=⟨rfl,rfl,rfl,rfl,rfl,rfl,rfl⟩
theorem c_endI:CRow P0 ety0 75 sp_endI:=CRow.of (E:=e_endI) (mkOk (.nil)) func75 rfl rfl rfl (by
 intro args p r outs h hq
 simp only [sp_endI] at h;split at h<;>cases h
 rename_i st ls c
 obtain ⟨h0,h1,h2,h3,h4⟩:=hq _ rfl
 refine Body.intro (rs:=[]) rfl rfl rfl ?_
 apply vc_run 1000 (stop:=false) rfl;simp only [push_cast,simprocAttr]
 have e1:(st.length:Int) - 1=((st.length - 1:Nat):Int):=by omega
 simp only [e1,gd_nat,Int.toNat_natCast,getD_take ([]:List Node) (show st.length - 1 < st.length by omega),List.length_take]
 have hp:=List.length_pos_iff.2 h2
 have e2:((ls.getD (st.length - 1) []).length:Int) - 1=(((ls.getD (st.length - 1) []).length - 1:Nat):Int):=by omega
 simp only [e2,gd_nat,Int.toNat_natCast]
 refine ⟨by omega,?_,?_,?_⟩
 all_goals exact ⟨by constructor<;>omega,by omega,by omega,by constructor<;>omega,by omega,by constructor<;>omega,by omega,rfl⟩)
noncomputable def sp_putI:Spec:=⟨[.sc,.st .node],[.io,.tk],false,fun
 | [.pb [.own true ⟨.opn,st⟩,.own true ⟨.nodes,ls⟩,.int .i64 c],.agg [.int .i64 k,.int .i64 s,.str m,.str t,.own true ⟨.attr,a⟩,.nilS]]=>some (some (ls.length=st.length+1∧st.length≤1000∧(∀ l∈ls,l.length≤1000)∧0≤c∧c≤1000),.int .i64 (putI ⟨st,ls,c⟩ (.mk k s m t a [])).2,[.pb [.own true ⟨.opn,(putI ⟨st,ls,c⟩ (.mk k s m t a [])).1.st⟩,.own true ⟨.nodes,(putI ⟨st,ls,c⟩ (.mk k s m t a [])).1.ls⟩,.int .i64 (putI ⟨st,ls,c⟩ (.mk k s m t a [])).1.c]])
 | [.pb [.own true ⟨.opn,st⟩,.own true ⟨.nodes,ls⟩,.int .i64 c],.agg [.int .i64 k,.int .i64 s,.str m,.str t,.nilS,.nilS]]=>some (some (ls.length=st.length+1∧st.length≤1000∧(∀ l∈ls,l.length≤1000)∧0≤c∧c≤1000),.int .i64 (putI ⟨st,ls,c⟩ (.mk k s m t [] [])).2,[.pb [.own true ⟨.opn,(putI ⟨st,ls,c⟩ (.mk k s m t [] [])).1.st⟩,.own true ⟨.nodes,(putI ⟨st,ls,c⟩ (.mk k s m t [] [])).1.ls⟩,.int .i64 (putI ⟨st,ls,c⟩ (.mk k s m t [] [])).1.c]])
 | _=>none⟩
@[push_cast] theorem sp_putI_s:sp_putI.ps=[.sc,.st .node]∧sp_putI.modes=[.io,.tk]∧sp_putI.pure=false:=⟨rfl,rfl,rfl⟩
@[push_cast] theorem sp_putI_run (st:List Opn) (ls:List (List Node)) (c k s:Int) (m t:Str) (a:List Attr):sp_putI.run [.pb [.own true ⟨.opn,st⟩,.own true ⟨.nodes,ls⟩,.int .i64 c],.agg [.int .i64 k,.int .i64 s,.str m,.str t,.own true ⟨.attr,a⟩,.nilS]]=some (some (ls.length=st.length+1∧st.length≤1000∧(∀ l∈ls,l.length≤1000)∧0≤c∧c≤1000),.int .i64 (putI ⟨st,ls,c⟩ (.mk k s m t a [])).2,[.pb [.own true ⟨.opn,(putI ⟨st,ls,c⟩ (.mk k s m t a [])).1.st⟩,.own true ⟨.nodes,(putI ⟨st,ls,c⟩ (.mk k s m t a [])).1.ls⟩,.int .i64 (putI ⟨st,ls,c⟩ (.mk k s m t a [])).1.c]]):=rfl
@[push_cast] theorem sp_putI_run1 (st:List Opn) (ls:List (List Node)) (c k s:Int) (m t:Str):sp_putI.run [.pb [.own true ⟨.opn,st⟩,.own true ⟨.nodes,ls⟩,.int .i64 c],.agg [.int .i64 k,.int .i64 s,.str m,.str t,.nilS,.nilS]]=some (some (ls.length=st.length+1∧st.length≤1000∧(∀ l∈ls,l.length≤1000)∧0≤c∧c≤1000),.int .i64 (putI ⟨st,ls,c⟩ (.mk k s m t [] [])).2,[.pb [.own true ⟨.opn,(putI ⟨st,ls,c⟩ (.mk k s m t [] [])).1.st⟩,.own true ⟨.nodes,(putI ⟨st,ls,c⟩ (.mk k s m t [] [])).1.ls⟩,.int .i64 (putI ⟨st,ls,c⟩ (.mk k s m t [] [])).1.c]]):=rfl
theorem putI_d {b:BI} {x:Node} (h:b.st.length=10):putI b x=(⟨b.st,b.ls,b.c+1⟩,11):=by unfold putI;rw [if_pos h]
theorem putI_m {b:BI} {x:Node} (h:¬ b.st.length=10) (h2:60 < b.c+1):putI b x=(⟨b.st,b.ls,b.c+1⟩,6):=by unfold putI;rw [if_neg h,if_pos h2]
theorem putI_s {b:BI} {x:Node} (h:¬ b.st.length=10) (h2:¬ 60 < b.c+1) (h3:120 < x.text.length):putI b x=(⟨b.st,b.ls,b.c+1⟩,8):=by unfold putI;rw [if_neg h,if_neg h2,if_pos h3]
theorem putI_o {b:BI} {x:Node} (h:¬ b.st.length=10) (h2:¬ 60 < b.c+1) (h3:¬ 120 < x.text.length):putI b x=(⟨b.st,b.ls.set b.st.length (b.ls.getD b.st.length []++[x]),b.c+1⟩,0):=by unfold putI;rw [if_neg h,if_neg h2,if_neg h3]
theorem getD_bound {ls:List (List Node)} {n b:Nat} (h:∀ l∈ls,l.length≤b):(ls.getD n []).length≤b:=by
 by_cases hn:n < ls.length
 ·have:ls.getD n []=ls[n]:=by simp [List.getD,hn]
  rw [this];exact h _ (List.getElem_mem hn)
 ·have:ls.getD n []=[]:=by simp [List.getD,List.getElem?_eq_none (Nat.le_of_not_lt hn)]
  rw [this];exact Nat.zero_le _
noncomputable def e_putI:Env:=mk [] [(9,[0,1,2],[(true,[0,1,2,3],[]),(false,[0,2,1,3],[])]),(10,[6,9,10,12],[(true,[0,1,2,3,4,5,6,7,8,9,10,11,12],[[],[],[],[],[],[],[],[0,2],[2]]),(false,[0,1,2,3,4,5,7,9,6,8,10,11,12],[[1],[1],[1],[1],[1],[1],[1,2]])]),(12,[11,13,14,16],[(true,[0,1,2,3,4,5,6,7,8,9,10,11,12,13,14,15,16],[[1,2,3],[1,2,3],[1,2,3],[1,2,3],[1,2,3],[],[],[],[],[],[],[],[0]]),(false,[0,1,2,3,4,5,6,7,8,9,10,12,13,11,14,15,16],[[1,2,3],[1,2,3],[1,2,3],[1,2,3],[1,2,3],[1],[1],[1],[1],[1],[1]])])] [] [] none
@[push_cast] theorem e_putI_e:MkE e_putI [] [(9,[0,1,2],[(true,[0,1,2,3],[]),(false,[0,2,1,3],[])]),(10,[6,9,10,12],[(true,[0,1,2,3,4,5,6,7,8,9,10,11,12],[[],[],[],[],[],[],[],[0,2],[2]]),(false,[0,1,2,3,4,5,7,9,6,8,10,11,12],[[1],[1],[1],[1],[1],[1],[1,2]])]),(12,[11,13,14,16],[(true,[0,1,2,3,4,5,6,7,8,9,10,11,12,13,14,15,16],[[1,2,3],[1,2,3],[1,2,3],[1,2,3],[1,2,3],[],[],[],[],[],[],[],[0]]),(false,[0,1,2,3,4,5,6,7,8,9,10,12,13,11,14,15,16],[[1,2,3],[1,2,3],[1,2,3],[1,2,3],[1,2,3],[1],[1],[1],[1],[1],[1]])])] [] [] none:=⟨rfl,rfl,rfl,rfl,rfl,rfl,rfl⟩
theorem c_putI:CRow P0 ety0 135 sp_putI:=CRow.of (E:=e_putI) (mkOk (.nil)) func135 rfl rfl rfl (by
 intro args p r outs h hq
 simp only [sp_putI] at h;split at h<;>cases h
 ·rename_i st ls c k s m t a
  obtain ⟨h1,h2,h3,h4,h5⟩:=hq _ rfl
  have hb:=getD_bound (n:=st.length) h3
  refine Body.intro (rs:=[.tmp 4]) rfl rfl rfl ?_
  apply vc_run 1000 (stop:=false) rfl;simp only [push_cast,simprocAttr]
  simp only [gd_nat,Int.toNat_natCast,set_rev]
  refine ⟨by constructor<;>omega,fun h=>?_,fun h=>⟨fun g=>?_,fun g=>⟨fun f=>?_,fun f=>?_⟩⟩⟩
  ·rw [putI_d (b:=⟨st,ls,c⟩) (by have:=of_decide_eq_true h;show st.length=10;omega)]
   exact ⟨rfl,rfl⟩
  ·rw [putI_m (b:=⟨st,ls,c⟩) (by have:=of_decide_eq_false h;show ¬ st.length=10;omega) (of_decide_eq_true g)]
   exact ⟨rfl,rfl⟩
  ·rw [putI_s (b:=⟨st,ls,c⟩) (by have:=of_decide_eq_false h;show ¬ st.length=10;omega) (of_decide_eq_false g) (by have:=of_decide_eq_true f;show 120 < t.length;omega)]
   exact ⟨rfl,rfl⟩
  ·rw [putI_o (b:=⟨st,ls,c⟩) (by have:=of_decide_eq_false h;show ¬ st.length=10;omega) (of_decide_eq_false g) (by have:=of_decide_eq_false f;show ¬ 120 < t.length;omega)]
   exact ⟨⟨fun h=>h.elim,by omega,by unfold sizeOk;omega,by omega,rfl,rfl⟩,⟨by omega,by unfold sizeOk;omega,by omega,by omega,rfl,rfl⟩,fun h=>(by cases h)⟩
 ·rename_i st ls c k s m t
  obtain ⟨h1,h2,h3,h4,h5⟩:=hq _ rfl
  have hb:=getD_bound (n:=st.length) h3
  refine Body.intro (rs:=[.tmp 4]) rfl rfl rfl ?_
  apply vc_run 1000 (stop:=false) rfl;simp only [push_cast,simprocAttr]
  simp only [gd_nat,Int.toNat_natCast,set_rev]
  refine ⟨by constructor<;>omega,fun h=>?_,fun h=>⟨fun g=>?_,fun g=>⟨fun f=>?_,fun f=>?_⟩⟩⟩
  ·rw [putI_d (b:=⟨st,ls,c⟩) (by have:=of_decide_eq_true h;show st.length=10;omega)]
   exact ⟨rfl,rfl⟩
  ·rw [putI_m (b:=⟨st,ls,c⟩) (by have:=of_decide_eq_false h;show ¬ st.length=10;omega) (of_decide_eq_true g)]
   exact ⟨rfl,rfl⟩
  ·rw [putI_s (b:=⟨st,ls,c⟩) (by have:=of_decide_eq_false h;show ¬ st.length=10;omega) (of_decide_eq_false g) (by have:=of_decide_eq_true f;show 120 < t.length;omega)]
   exact ⟨rfl,rfl⟩
  ·rw [putI_o (b:=⟨st,ls,c⟩) (by have:=of_decide_eq_false h;show ¬ st.length=10;omega) (of_decide_eq_false g) (by have:=of_decide_eq_false f;show ¬ 120 < t.length;omega)]
   exact ⟨⟨fun h=>h.elim,by omega,by unfold sizeOk;omega,by omega,rfl,rfl⟩,⟨by omega,by unfold sizeOk;omega,by omega,by omega,rfl,rfl⟩,fun h=>(by cases h)⟩)
noncomputable def sp_wordsI:Spec:=⟨[.sc,.sc],[.io,.rd],false,fun
 | [.pb [.own true ⟨.opn,st⟩,.own true ⟨.nodes,ls⟩,.int .i64 c],.str t]=>some (some (ls.length=st.length+1∧st.length≤1000∧(∀ l∈ls,l.length≤1000∧∀ x∈l,x.text.length≤120)∧0≤c∧c≤1000∧t.length≤524000),.int .i64 (wordsI ⟨st,ls,c⟩ t).2,[.pb [.own true ⟨.opn,(wordsI ⟨st,ls,c⟩ t).1.st⟩,.own true ⟨.nodes,(wordsI ⟨st,ls,c⟩ t).1.ls⟩,.int .i64 (wordsI ⟨st,ls,c⟩ t).1.c]])
 | _=>none⟩
@[push_cast] theorem sp_wordsI_s:sp_wordsI.ps=[.sc,.sc]∧sp_wordsI.modes=[.io,.rd]∧sp_wordsI.pure=false:=⟨rfl,rfl,rfl⟩
@[push_cast] theorem sp_wordsI_run (st:List Opn) (ls:List (List Node)) (c:Int) (t:Str):sp_wordsI.run [.pb [.own true ⟨.opn,st⟩,.own true ⟨.nodes,ls⟩,.int .i64 c],.str t]=some (some (ls.length=st.length+1∧st.length≤1000∧(∀ l∈ls,l.length≤1000∧∀ x∈l,x.text.length≤120)∧0≤c∧c≤1000∧t.length≤524000),.int .i64 (wordsI ⟨st,ls,c⟩ t).2,[.pb [.own true ⟨.opn,(wordsI ⟨st,ls,c⟩ t).1.st⟩,.own true ⟨.nodes,(wordsI ⟨st,ls,c⟩ t).1.ls⟩,.int .i64 (wordsI ⟨st,ls,c⟩ t).1.c]]):=rfl
theorem set_self {α:Type} (l:List α) (n:Nat) (d:α):l.set n (l.getD n d)=l:=by
 by_cases h:n < l.length
 ·have:l.getD n d=l[n]:=by simp [List.getD,h]
  rw [this];exact List.set_getElem_self h
 ·exact List.set_eq_of_length_le (Nat.le_of_not_lt h)
theorem last_bound {l:List Node} {b:Nat} (h:∀ x∈l,x.text.length≤b) (hl:0 < l.length):(l.getD (l.length - 1) nodeD).text.length≤b:=by
 have:l.getD (l.length - 1) nodeD=l[l.length - 1]:=by simp [List.getD,show l.length - 1 < l.length by omega]
 rw [this];exact h _ (List.getElem_mem _)
theorem getD_mem' {ls:List (List Node)} {n:Nat} {Q:List Node→Prop} (h:∀ l∈ls,Q l) (h0:Q []):Q (ls.getD n []):=by
 by_cases hn:n < ls.length
 ·have:ls.getD n []=ls[n]:=by simp [List.getD,hn]
  rw [this];exact h _ (List.getElem_mem hn)
 ·have:ls.getD n []=[]:=by simp [List.getD,List.getElem?_eq_none (Nat.le_of_not_lt hn)]
  rw [this];exact h0
noncomputable def e_wordsI:Env:=mk [(135,sp_putI)] [(1,[10],[(true,[0,1,2,3,4,5,6,7,8,9,10,11],[])])] [(55,[.cls 10])] [] none
@[push_cast] theorem e_wordsI_e:MkE e_wordsI [(135,sp_putI)] [(1,[10],[(true,[0,1,2,3,4,5,6,7,8,9,10,11],[])])] [(55,[.cls 10])] [] none:=⟨rfl,rfl,rfl,rfl,rfl,rfl,rfl⟩
theorem c_wordsI:CRow P0 ety0 134 sp_wordsI:=CRow.of (E:=e_wordsI) (mkOk (.cons c_putI (.nil))) func134 rfl rfl rfl (by
 intro args p r outs h hq
 simp only [sp_wordsI] at h;split at h<;>cases h
 rename_i st ls c t
 obtain ⟨h1,h2,h3,h4,h5,h6⟩:=hq _ rfl
 refine Body.intro (rs:=[.tmp 4]) rfl rfl rfl ?_
 apply vc_run 1000 (stop:=false) rfl;simp only [push_cast,simprocAttr]
 simp only [gd_nat,Int.toNat_natCast,set_self]
 obtain ⟨hb,ht⟩:=getD_mem' (n:=st.length) (Q:=fun l=>l.length≤1000∧∀ x∈l,x.text.length≤120) h3 ⟨Nat.zero_le _,fun x hx=>by cases hx⟩
 unfold wordsI
 generalize hW:ls.getD st.length []=W at *
 have hne:(W≠[])=(0 < W.length):=propext List.length_pos_iff.symm
 refine ⟨by omega,fun h=>by have:=of_decide_eq_true h;constructor<;>omega,fun h=>by have:=of_decide_eq_true h;omega,fun h=>?_,fun h=>?_⟩
 ·obtain ⟨hp,hk⟩:0 < W.length∧(W.getD (W.length - 1) nodeD).kind=2:=by
   cases hd:decide (0 < (W.length:Int)) with
   | false=>rw [hd] at h;cases h
   | true =>
    rw [hd] at h
    have hp:=of_decide_eq_true hd
    rw [show (W.length:Int) - 1=((W.length - 1:Nat):Int) by omega,gd_nat] at h
    exact ⟨by omega,of_decide_eq_true h⟩
  have e1:(W.length:Int) - 1=((W.length - 1:Nat):Int):=by omega
  have hl:=last_bound ht hp
  simp only [e1,gd_nat,Int.toNat_natCast,if_pos (And.intro (hne ▸ hp) hk)]
  refine ⟨by constructor<;>omega,by omega,by constructor<;>omega,fun g=>?_,fun g=>?_⟩
  ·rw [if_pos (by have:=of_decide_eq_true g;omega)]
   exact ⟨rfl,rfl⟩
  ·rw [if_neg (by have:=of_decide_eq_false g;omega)]
   exact ⟨by constructor<;>omega,by omega,by omega,by omega,rfl,rfl⟩
 ·have hc:¬ (W≠[]∧(W.getD (W.length - 1) nodeD).kind=2):=fun ⟨c1,c2⟩=>by
   have hp:0 < W.length:=hne ▸ c1
   rw [decide_eq_true (show 0 < (W.length:Int) by omega),show (W.length:Int) - 1=((W.length - 1:Nat):Int) by omega,gd_nat,decide_eq_true c2] at h
   cases h
  simp only [hW,if_neg hc]
  exact ⟨⟨h1,h2,fun l hl=>(h3 l hl).1,h4,h5⟩,by trivial,by trivial⟩)
noncomputable def sp_opensI:Spec:=⟨[.sc,.st .tokn],[.io,.tk],false,fun
 | [.pb [.own true ⟨.opn,st⟩,.own true ⟨.nodes,ls⟩,.int .i64 c],.agg [.int .i64 k,.int .i64 p,.int .i64 n,.str m,.str x,.own true ⟨.attr,a⟩,.bool sf]]=>some (some ((∃ R,R≠[]∧R.length≤11∧InvR R c∧(⟨st,ls,c⟩:BI)=asI R c)),.int .i64 (opensI ⟨st,ls,c⟩ ⟨k,p,n,m,x,a,sf⟩).2,[.pb [.own true ⟨.opn,(opensI ⟨st,ls,c⟩ ⟨k,p,n,m,x,a,sf⟩).1.st⟩,.own true ⟨.nodes,(opensI ⟨st,ls,c⟩ ⟨k,p,n,m,x,a,sf⟩).1.ls⟩,.int .i64 (opensI ⟨st,ls,c⟩ ⟨k,p,n,m,x,a,sf⟩).1.c]])
 | _=>none⟩
@[push_cast] theorem sp_opensI_s:sp_opensI.ps=[.sc,.st .tokn]∧sp_opensI.modes=[.io,.tk]∧sp_opensI.pure=false:=⟨rfl,rfl,rfl⟩
@[push_cast] theorem sp_opensI_run (st:List Opn) (ls:List (List Node)) (c k p n:Int) (m x:Str) (a:List Attr) (sf:Bool):sp_opensI.run [.pb [.own true ⟨.opn,st⟩,.own true ⟨.nodes,ls⟩,.int .i64 c],.agg [.int .i64 k,.int .i64 p,.int .i64 n,.str m,.str x,.own true ⟨.attr,a⟩,.bool sf]]=some (some ((∃ R,R≠[]∧R.length≤11∧InvR R c∧(⟨st,ls,c⟩:BI)=asI R c)),.int .i64 (opensI ⟨st,ls,c⟩ ⟨k,p,n,m,x,a,sf⟩).2,[.pb [.own true ⟨.opn,(opensI ⟨st,ls,c⟩ ⟨k,p,n,m,x,a,sf⟩).1.st⟩,.own true ⟨.nodes,(opensI ⟨st,ls,c⟩ ⟨k,p,n,m,x,a,sf⟩).1.ls⟩,.int .i64 (opensI ⟨st,ls,c⟩ ⟨k,p,n,m,x,a,sf⟩).1.c]]):=rfl
theorem sumL_cons {α:Type} (f:α→Nat) (x:α) (l:List α):sumL f (x :: l)=f x+sumL f l:=rfl
theorem sumL_at' {α:Type} {f:α→Nat}:∀ {l:List α} {x:α},x∈l→f x≤sumL f l
 | y :: l,x,h=>by
  rw [sumL_cons]
  cases h with
  | head=>exact Nat.le_add_right _ _
  | tail _ h=>have:=sumL_at' (f:=f) h;omega
theorem inv_pop {x y:Node} {r:List Node} {c:Int} (h:InvR (x :: y :: r) c):InvR (popR (x :: y :: r)) c:=by
 obtain ⟨h1,h2,h3,h4,h5,h6⟩:=h
 rw [popR]
 refine ⟨by simp,by simp at h2 ⊢;omega,h3,h4,?_,fun z hz=>?_⟩
 ·simp only [sumL_cons,setKids_kids,List.length_append,List.length_cons,List.length_nil] at h5 ⊢
  omega
 ·cases hz with
  | head =>
   refine ⟨(h6 y (by simp)).1,fun k hk=>?_⟩
   rw [setKids_kids,List.mem_append,List.mem_singleton] at hk
   rcases hk with hk | rfl
   ·exact (h6 y (by simp)).2 k hk
   ·rw [(h6 k (by simp)).1];exact Nat.zero_le _
  | tail _ hz=>exact h6 z (List.mem_cons_of_mem _ (List.mem_cons_of_mem _ hz))
theorem inv_pops:∀ {n:Nat} {R:List Node} {c:Int},n < R.length→InvR R c→InvR (popsR n R) c
 | 0,_,_,_,h=>h
 | n+1,R,c,hn,h=>by
  have ih:=inv_pops (n:=n) (by omega) h
  have hl:=popsR_len n R (by omega)
  rw [popsR]
  match hp:popsR n R,hl,ih with
  | [],hl,_=>simp at hl;omega
  | [z],hl,_=>simp at hl;omega
  | x :: y :: r,_,ih=>exact inv_pop ih
theorem inv_kids {R:List Node} {c:Int} (h:InvR R c):∀ x∈R,x.kids.length≤61:=fun x hx=>by
 obtain ⟨_,_,_,h4,h5,_⟩:=h
 have:=sumL_at' (f:=fun x:Node=>x.kids.length) hx
 omega
theorem lsT_all {Q:List Node→Prop}:∀ (x:Node) (r:List Node),(∀ y∈r,∀ z∈x :: r,Q (y.kids++[setKids z []]))→∀ l∈lsT x r,Q l
 | _,[],_,l,hl=>by cases hl
 | x,y :: r,h,l,hl=>by
  rw [lsT] at hl
  cases hl with
  | head=>exact h y (by simp) x (by simp)
  | tail _ hl=>exact lsT_all y r (fun w hw z hz=>h w (by simp [hw]) z (by simp at hz ⊢;exact .inr hz)) l hl
theorem inv_lists {R:List Node} {c:Int} (h:InvR R c):∀ l∈(lsR R).reverse,l.length≤1000∧∀ x∈l,x.text.length≤120:=by
 have hk:=inv_kids h
 obtain ⟨h1,h2,h3,h4,h5,h6⟩:=h
 obtain ⟨y,r,rfl⟩:=R_cons h1
 intro l hl
 rw [List.mem_reverse,lsR] at hl
 cases hl with
 | head=>exact ⟨by have:=hk y (by simp);omega,(h6 y (by simp)).2⟩
 | tail _ hl =>
  refine lsT_all (Q:=fun l=>l.length≤1000∧∀ x∈l,x.text.length≤120) y r (fun w hw z hz=>⟨?_,fun k hk'=>?_⟩) l hl
  ·rw [List.length_append,List.length_singleton]
   have:=hk w (by simp [hw]);omega
  ·rw [List.mem_append,List.mem_singleton] at hk'
   rcases hk' with hk' | rfl
   ·exact (h6 w (by simp [hw])).2 k hk'
   ·show z.text.length≤120
    rw [(h6 z hz).1];exact Nat.zero_le _
theorem inv_len {R:List Node} {c:Int} (h:InvR R c):(lsR R).reverse.length=(stkR R).length+1∧(stkR R).length≤10∧(stkR R).length+1=R.length:=by
 have hs:=stkL h.1
 have h2:=h.2.1
 obtain ⟨y,r,rfl⟩:=R_cons h.1
 refine ⟨?_,by omega,hs⟩
 rw [List.length_reverse,lsR,List.length_cons,lsT_len,stkR_len]
theorem end_pre {R:List Node} {c:Int} (h:InvR R c) (h2:2≤R.length):0 < (stkR R).length∧(lsR R).reverse.length=(stkR R).length+1∧(lsR R).reverse.getD ((stkR R).length - 1) []≠[]∧(stkR R).length≤1000∧((lsR R).reverse.getD ((stkR R).length - 1) []).length≤1000:=by
 obtain ⟨g1,g2,g3⟩:=inv_len h
 have hl:=getD_mem' (n:=(stkR R).length - 1) (Q:=fun l=>l.length≤1000) (fun l hl=>(inv_lists h l hl).1) (Nat.zero_le _)
 match R,h2 with
 | x :: y :: r,_ =>
  refine ⟨by rw [stkR_len];simp,g1,?_,by omega,hl⟩
  have e:(lsR (x :: y :: r)).reverse=((lsT y r).reverse++[y.kids++[setKids x []]])++[x.kids]:=by rw [lsR,lsT,List.reverse_cons,List.reverse_cons]
  have e2:(stkR (x :: y :: r)).length - 1=(lsT y r).reverse.length:=by rw [stkR_len,List.length_reverse,lsT_len];simp
  rw [e,e2,List.append_assoc]
  simp [List.getD]
theorem putI_same (b:BI) (x:Node):(putI b x).1.st=b.st∧(putI b x).1.ls.length=b.ls.length:=by
 unfold putI
 repeat' split
 all_goals simp
noncomputable def e_opensI:Env:=mk [(204,sp_implied),(75,sp_endI),(135,sp_putI),(173,sp_isVoidS)] [(1,[],[(true,[0,1,2,3,4,5,6,7,8,9,10,11],[])]),(9,[10,11,16,17,20,23],[(true,[0,1,2,3,4,5,6,7,8,9,10,11,12,13,14,15,16,17,18,19,20,21,22,23],[[1,2,3,4],[1,2,3,4,5],[1],[1],[1],[1],[],[],[],[],[],[],[0,1,3],[0,1,3],[0,1,3],[0,1,3]]),(false,[0,1,2,3,4,5,6,7,8,9,12,13,14,15,10,16,11,17,18,19,20,21,22,23],[[1,2,3,4],[1,2,3,4,5],[1,2],[1,2],[1,2],[1,2],[],[],[],[],[1,2,3],[1,2,3],[1,2,3],[1,2,3]]),(false,[0,1,2,3,4,5,6,7,8,9,12,13,14,15,16,10,11,17,18,19,20,21,22,23],[[1,2,3,4],[1,2,3,4,5],[1,2],[1,2],[1,2],[1,2],[1],[1],[1],[1],[1,2,3],[1,2,3],[1,2,3],[1,2,3]])])] [] [] none
@[push_cast] theorem e_opensI_e:MkE e_opensI [(204,sp_implied),(75,sp_endI),(135,sp_putI),(173,sp_isVoidS)] [(1,[],[(true,[0,1,2,3,4,5,6,7,8,9,10,11],[])]),(9,[10,11,16,17,20,23],[(true,[0,1,2,3,4,5,6,7,8,9,10,11,12,13,14,15,16,17,18,19,20,21,22,23],[[1,2,3,4],[1,2,3,4,5],[1],[1],[1],[1],[],[],[],[],[],[],[0,1,3],[0,1,3],[0,1,3],[0,1,3]]),(false,[0,1,2,3,4,5,6,7,8,9,12,13,14,15,10,16,11,17,18,19,20,21,22,23],[[1,2,3,4],[1,2,3,4,5],[1,2],[1,2],[1,2],[1,2],[],[],[],[],[1,2,3],[1,2,3],[1,2,3],[1,2,3]]),(false,[0,1,2,3,4,5,6,7,8,9,12,13,14,15,16,10,11,17,18,19,20,21,22,23],[[1,2,3,4],[1,2,3,4,5],[1,2],[1,2],[1,2],[1,2],[1],[1],[1],[1],[1,2,3],[1,2,3],[1,2,3],[1,2,3]])])] [] [] none:=⟨rfl,rfl,rfl,rfl,rfl,rfl,rfl⟩
theorem c_opensI:CRow P0 ety0 136 sp_opensI:=CRow.of (E:=e_opensI) (mkOk (.cons c_implied (.cons c_endI (.cons c_putI (.cons c_isVoidS (.nil)))))) func136 rfl rfl rfl (by
 intro args p r outs h hq
 simp only [sp_opensI] at h;split at h<;>cases h
 rename_i st ls c k p n m x a sf
 obtain ⟨R,hR,hR2,hI,hb⟩:=hq _ rfl
 obtain ⟨rfl,rfl,_⟩:=BI.mk.inj hb
 obtain ⟨i1,i2,i3⟩:=inv_len hI
 have hsn:=stayN_le (stkR R) m
 refine Body.intro (rs:=[.tmp 4]) rfl rfl rfl ?_
 apply vc_run 1000 (stop:=false) rfl;simp only [push_cast,simprocAttr]
 refine ⟨by omega,?_⟩
 refine Run.loop [] [0,3,5,6] [0,4] rfl (fun u vs bs=>∃ j:Nat,vs=[]∧bs=[[.own true ⟨.opn,stkR (popsR j R)⟩,.own true ⟨.nodes,(lsR (popsR j R)).reverse⟩,.int .i64 c],[.int .i64 k,.int .i64 p,.int .i64 n,.str m,.str x,.own true ⟨.attr,a⟩,.bool sf]]∧j≤(stkR R).length - stayN (stkR R) m∧u=(stkR R).length - stayN (stkR R) m - j) ((stkR R).length - stayN (stkR R) m) ?_ ?_
 ·simp only [push_cast,simprocAttr]
  exact ⟨0,rfl,Nat.zero_le _,rfl⟩
 rintro u vs bs ⟨j,rfl,rfl,hj,rfl⟩
 simp only [push_cast,simprocAttr]
 apply vc_run 1000 (stop:=false) rfl;simp only [push_cast,simprocAttr]
 have hjl:j < R.length:=by omega
 have hIj:=inv_pops hjl hI
 have hpl:=popsR_len j R hjl
 obtain ⟨q1,q2,q3⟩:=inv_len hIj
 refine ⟨fun h=>?_,fun h=>?_⟩
 ·have h:=of_decide_eq_true h
  refine ⟨end_pre hIj (by omega),(stkR R).length - stayN (stkR R) m - (j+1),by omega,j+1,?_,by omega,rfl⟩
  have e:endI ⟨stkR (popsR j R),(lsR (popsR j R)).reverse,c⟩=asI (popsR (j+1) R) c:=by
   have:=endsI_asI (j+1) R c (by omega)
   rw [endsI,endsI_asI j R c hjl] at this
   exact this
  rw [e];rfl
 ·have h:=of_decide_eq_false h
  have hje:j=(stkR R).length - stayN (stkR R) m:=by omega
  have hO:opensI ⟨stkR R,(lsR R).reverse,c⟩ ⟨k,p,n,m,x,a,sf⟩ =
    (if (putI ⟨stkR (popsR j R),(lsR (popsR j R)).reverse,c⟩ (.mk 1 (spaceN (stkR R) m (stayN (stkR R) m)) m [] a [])).2≠0 then putI ⟨stkR (popsR j R),(lsR (popsR j R)).reverse,c⟩ (.mk 1 (spaceN (stkR R) m (stayN (stkR R) m)) m [] a [])
     else if spaceN (stkR R) m (stayN (stkR R) m)=0∧isVoidS m=true∨spaceN (stkR R) m (stayN (stkR R) m)≠0∧sf=true then ((putI ⟨stkR (popsR j R),(lsR (popsR j R)).reverse,c⟩ (.mk 1 (spaceN (stkR R) m (stayN (stkR R) m)) m [] a [])).1,0)
     else (⟨(putI ⟨stkR (popsR j R),(lsR (popsR j R)).reverse,c⟩ (.mk 1 (spaceN (stkR R) m (stayN (stkR R) m)) m [] a [])).1.st++[⟨m,spaceN (stkR R) m (stayN (stkR R) m)⟩],(putI ⟨stkR (popsR j R),(lsR (popsR j R)).reverse,c⟩ (.mk 1 (spaceN (stkR R) m (stayN (stkR R) m)) m [] a [])).1.ls++[[]],(putI ⟨stkR (popsR j R),(lsR (popsR j R)).reverse,c⟩ (.mk 1 (spaceN (stkR R) m (stayN (stkR R) m)) m [] a [])).1.c⟩,0)):=by
   have he:endsI ((stkR R).length - stayN (stkR R) m) ⟨stkR R,(lsR R).reverse,c⟩=⟨stkR (popsR j R),(lsR (popsR j R)).reverse,c⟩:=by
    rw [← hje];exact endsI_asI j R c hjl
   unfold opensI
   simp only [he]
  rw [hO]
  obtain ⟨p1,p2⟩:=putI_same ⟨stkR (popsR j R),(lsR (popsR j R)).reverse,c⟩ (.mk 1 (spaceN (stkR R) m (stayN (stkR R) m)) m [] a [])
  simp only at p1 p2
  generalize putI ⟨stkR (popsR j R),(lsR (popsR j R)).reverse,c⟩ (.mk 1 (spaceN (stkR R) m (stayN (stkR R) m)) m [] a [])=pr at *
  generalize spaceN (stkR R) m (stayN (stkR R) m)=sp at *
  have hc0:=hI.2.2.1
  have hc1:=hI.2.2.2.1
  refine ⟨⟨q1,by omega,fun l hl=>(inv_lists hIj l hl).1,hc0,by omega⟩,fun g=>?_,fun g=>⟨fun f=>?_,fun f=>?_⟩⟩
  ·rw [if_pos (by simpa using g)]
   exact ⟨rfl,rfl⟩
  ·have hv:sp=0∧isVoidS m=true∨sp≠0∧sf=true:=by
    cases h1:decide (sp=0)<;>cases h2:isVoidS m<;>cases sf<;>rw [h1,h2] at f<;>first | cases f | skip
    all_goals first | exact .inl ⟨of_decide_eq_true h1,rfl⟩ | exact .inr ⟨of_decide_eq_false h1,rfl⟩
   rw [if_neg (by simpa using g),if_pos hv]
   exact ⟨rfl,rfl⟩
  ·have hv:¬ (sp=0∧isVoidS m=true∨sp≠0∧sf=true):=by
    rintro (⟨g1,g2⟩ | ⟨g1,g2⟩)
    ·rw [decide_eq_true g1,g2] at f;cases f
    ·rw [decide_eq_false g1,g2] at f;cases f
   rw [if_neg (by simpa using g),if_neg hv]
   exact ⟨by unfold sizeOk;rw [p1];omega,by unfold sizeOk;rw [p2];omega,rfl,rfl⟩)
noncomputable def e_closeAt2:Env:=mk [] [] [] [] none
@[push_cast] theorem e_closeAt2_e:MkE e_closeAt2 [] [] [] [] none:=⟨rfl,rfl,rfl,rfl,rfl,rfl,rfl⟩
theorem c_closeAt2:CRow P0 ety0 68 sp_closeAt:=CRow.of (E:=e_closeAt2) (mkOk (.nil)) func68 rfl rfl rfl (by
 intro args p r outs h hq
 simp only [sp_closeAt] at h;split at h<;>cases h
 rename_i st m
 have hz:=hq _ rfl
 refine Body.intro (rs:=[.tmp 4]) rfl rfl rfl ?_
 apply vc_run 1000 (stop:=false) rfl;simp only [push_cast,simprocAttr]
 refine ⟨by constructor<;>omega,?_⟩
 refine Run.loop [4,5] [0,1] [] rfl (fun n vs bs=>∃ k:Nat,vs=[.int .i64 0,.int .i64 ((k:Int) - 1)]∧bs=[]∧k≤st.length∧closN st m st.length=closN st m k∧n=k) st.length ?_ ?_
 ·simp only [push_cast,simprocAttr]
  exact ⟨st.length,rfl,Nat.le_refl _,rfl,rfl⟩
 rintro n vs bs ⟨k,rfl,rfl,hk,hb,rfl⟩
 simp only [push_cast,simprocAttr]
 apply vc_run 1000 (stop:=false) rfl;simp only [push_cast,simprocAttr]
 refine ⟨fun h=>?_,fun h=>?_⟩
 ·have h0:0 < n:=by have:=of_decide_eq_true h;omega
  obtain ⟨k,rfl⟩:∃ k,n=k+1:=⟨n - 1,by omega⟩
  have e:((k+1:Nat):Int) - 1=(k:Int):=by omega
  have hc:closN st m (k+1)=if (st.getD k opnD).name=m then k+1 else closN st m k:=rfl
  simp only [e,gd_nat]
  refine ⟨by omega,fun g=>?_,fun g=>⟨by constructor<;>omega,k,by omega,k,rfl,by omega,?_,rfl⟩⟩
  ·rw [hb,hc,if_pos (of_decide_eq_true g),e]
  ·rw [hb,hc,if_neg (of_decide_eq_false g)]
 ·have h0:n=0:=by have:=of_decide_eq_false h;omega
  subst h0
  rw [hb];rfl)
noncomputable def sp_spaceP:Spec:=⟨[.sl .opn,.sc],[.rd,.rd],true,fun
 | [.dat ⟨.opn,st⟩,.str m]=>some (some (st.length≤1073741824),.int .i64 (spaceN st m st.length),[])
 | _=>none⟩
@[push_cast] theorem sp_spaceP_s:sp_spaceP.ps=[.sl .opn,.sc]∧sp_spaceP.modes=[.rd,.rd]∧sp_spaceP.pure=true:=⟨rfl,rfl,rfl⟩
@[push_cast] theorem sp_spaceP_run (st:List Opn) (m:Str):sp_spaceP.run [.dat ⟨.opn,st⟩,.str m]=some (some (st.length≤1073741824),.int .i64 (spaceN st m st.length),[]):=rfl
noncomputable def e_spaceP:Env:=mk [(192,sp_spaceS)] [] [] [] none
@[push_cast] theorem e_spaceP_e:MkE e_spaceP [(192,sp_spaceS)] [] [] [] none:=⟨rfl,rfl,rfl,rfl,rfl,rfl,rfl⟩
theorem c_spaceP:CRow P0 ety0 123 sp_spaceP:=CRow.of (E:=e_spaceP) (mkOk (.cons c_spaceS2 (.nil))) func123 rfl rfl rfl (by
 intro args p r outs h hq
 simp only [sp_spaceP] at h;split at h<;>cases h
 rename_i st m
 have hz:=hq _ rfl
 refine Body.intro (rs:=[.tmp 4]) rfl rfl rfl ?_
 apply vc_run 1000 (stop:=false) rfl;simp only [push_cast,simprocAttr]
 unfold spaceN
 refine ⟨fun h=>?_,fun h=>?_⟩
 ·rw [if_neg (fun c=>by rw [c.1] at h;cases h)]
 ·have h0:spaceS m=0:=by simpa using h
  refine ⟨fun g=>?_,fun g=>?_⟩
  ·have:=of_decide_eq_true g
   rw [if_neg (by omega),h0]
  ·have:=of_decide_eq_false g
   rw [if_pos ⟨h0,by omega⟩,show (st.length:Int) - 1=((st.length - 1:Nat):Int) by omega,gd_nat]
   exact ⟨by constructor<;>omega,by omega,rfl⟩)
noncomputable def sp_closesI:Spec:=⟨[.sc,.sc],[.io,.rd],false,fun
 | [.pb [.own true ⟨.opn,st⟩,.own true ⟨.nodes,ls⟩,.int .i64 c],.str m]=>some (some ((∃ R,InvR R c∧(⟨st,ls,c⟩:BI)=asI R c)),.tup [],[.pb [.own true ⟨.opn,(closesI ⟨st,ls,c⟩ m).st⟩,.own true ⟨.nodes,(closesI ⟨st,ls,c⟩ m).ls⟩,.int .i64 c]])
 | _=>none⟩
@[push_cast] theorem sp_closesI_s:sp_closesI.ps=[.sc,.sc]∧sp_closesI.modes=[.io,.rd]∧sp_closesI.pure=false:=⟨rfl,rfl,rfl⟩
@[push_cast] theorem sp_closesI_run (st:List Opn) (ls:List (List Node)) (c:Int) (m:Str):sp_closesI.run [.pb [.own true ⟨.opn,st⟩,.own true ⟨.nodes,ls⟩,.int .i64 c],.str m]=some (some ((∃ R,InvR R c∧(⟨st,ls,c⟩:BI)=asI R c)),.tup [],[.pb [.own true ⟨.opn,(closesI ⟨st,ls,c⟩ m).st⟩,.own true ⟨.nodes,(closesI ⟨st,ls,c⟩ m).ls⟩,.int .i64 c]]):=rfl
noncomputable def e_closesI:Env:=mk [(205,sp_closeAt),(75,sp_endI)] [] [] [] none
@[push_cast] theorem e_closesI_e:MkE e_closesI [(205,sp_closeAt),(75,sp_endI)] [] [] [] none:=⟨rfl,rfl,rfl,rfl,rfl,rfl,rfl⟩
theorem c_closesI:CRow P0 ety0 137 sp_closesI:=CRow.of (E:=e_closesI) (mkOk (.cons c_closeAt (.cons c_endI (.nil)))) func137 rfl rfl rfl (by
 intro args p r outs h hq
 simp only [sp_closesI] at h;split at h<;>cases h
 rename_i st ls c m
 obtain ⟨R,hI,hb⟩:=hq _ rfl
 obtain ⟨rfl,rfl,_⟩:=BI.mk.inj hb
 obtain ⟨i1,i2,i3⟩:=inv_len hI
 have hcl:=closN_le (stkR R) m (stkR R).length
 refine Body.intro (rs:=[]) rfl rfl rfl ?_
 apply vc_run 1000 (stop:=false) rfl;simp only [push_cast,simprocAttr]
 refine ⟨by omega,?_⟩
 refine Run.loop [] [0,4] [0] rfl (fun u vs bs=>∃ j:Nat,vs=[]∧bs=[[.own true ⟨.opn,stkR (popsR j R)⟩,.own true ⟨.nodes,(lsR (popsR j R)).reverse⟩,.int .i64 c]]∧j < R.length∧(closN (stkR R) m (stkR R).length=0→j=0)∧(closN (stkR R) m (stkR R).length≠0→j≤(stkR R).length - (closN (stkR R) m (stkR R).length - 1))∧u=R.length - j) R.length ?_ ?_
 ·simp only [push_cast,simprocAttr]
  exact ⟨0,rfl,by omega,fun _=>rfl,fun _=>Nat.zero_le _,rfl⟩
 rintro u vs bs ⟨j,rfl,rfl,hjl,hj0,hj1,rfl⟩
 simp only [push_cast,simprocAttr]
 apply vc_run 1000 (stop:=false) rfl;simp only [push_cast,simprocAttr]
 have hIj:=inv_pops hjl hI
 have hpl:=popsR_len j R hjl
 obtain ⟨q1,q2,q3⟩:=inv_len hIj
 generalize hN:closN (stkR R) m (stkR R).length=N at *
 have hO:closesI ⟨stkR R,(lsR R).reverse,c⟩ m=if N=0 then asI R c else asI (popsR ((stkR R).length - (N - 1)) R) c:=by
  have:=closesR_asI hI.1 c m
  unfold closesR at this
  rw [hN] at this
  rw [show (⟨stkR R,(lsR R).reverse,c⟩:BI)=asI R c from rfl,this]
  split<;>rfl
 rw [hO]
 refine ⟨fun h=>?_,fun h=>?_⟩
 ·obtain ⟨g1,g2⟩:1≤N∧N - 1 < (stkR (popsR j R)).length:=by
   cases hd:decide (0≤(N:Int) - 1) with
   | false=>rw [hd] at h;cases h
   | true=>rw [hd] at h;have a1:=of_decide_eq_true hd;have a2:=of_decide_eq_true h;omega
  refine ⟨end_pre hIj (by omega),R.length - (j+1),by omega,j+1,?_,by omega,fun e=>by omega,fun _=>by omega,rfl⟩
  have e:endI ⟨stkR (popsR j R),(lsR (popsR j R)).reverse,c⟩=asI (popsR (j+1) R) c:=by
   have:=endsI_asI (j+1) R c (by omega)
   rw [endsI,endsI_asI j R c hjl] at this
   exact this
  rw [e];rfl
 ·by_cases h0:N=0
  ·rw [if_pos h0,hj0 h0];rfl
  ·have hge:¬ N - 1 < (stkR (popsR j R)).length:=fun g=>by
    rw [decide_eq_true (show 0≤(N:Int) - 1 by omega),decide_eq_true (show (N:Int) - 1 < ((stkR (popsR j R)).length:Nat) by omega)] at h
    cases h
   have:j=(stkR R).length - (N - 1):=by have:=hj1 h0;omega
   rw [if_neg h0,← this];rfl)
noncomputable def sp_takeI:Spec:=⟨[.sc,.st .tokn,.sc],[.io,.tk,.rd],false,fun
 | [.pb [.own true ⟨.opn,st⟩,.own true ⟨.nodes,ls⟩,.int .i64 c],.agg [.int .i64 k,.int .i64 p,.int .i64 n,.str m,.str x,.own true ⟨.attr,a⟩,.bool sf],.str raw]=>some (some ((∃ R,InvR R c∧(⟨st,ls,c⟩:BI)=asI R c∧(raw≠[]→2≤R.length)∧x.length≤524000)),.int .i64 (takeI ⟨st,ls,c⟩ ⟨k,p,n,m,x,a,sf⟩ raw).2,[.pb [.own true ⟨.opn,(takeI ⟨st,ls,c⟩ ⟨k,p,n,m,x,a,sf⟩ raw).1.st⟩,.own true ⟨.nodes,(takeI ⟨st,ls,c⟩ ⟨k,p,n,m,x,a,sf⟩ raw).1.ls⟩,.int .i64 (takeI ⟨st,ls,c⟩ ⟨k,p,n,m,x,a,sf⟩ raw).1.c]])
 | _=>none⟩
@[push_cast] theorem sp_takeI_s:sp_takeI.ps=[.sc,.st .tokn,.sc]∧sp_takeI.modes=[.io,.tk,.rd]∧sp_takeI.pure=false:=⟨rfl,rfl,rfl⟩
@[push_cast] theorem sp_takeI_run (st:List Opn) (ls:List (List Node)) (c k p n:Int) (m x:Str) (a:List Attr) (sf:Bool) (raw:Str):sp_takeI.run [.pb [.own true ⟨.opn,st⟩,.own true ⟨.nodes,ls⟩,.int .i64 c],.agg [.int .i64 k,.int .i64 p,.int .i64 n,.str m,.str x,.own true ⟨.attr,a⟩,.bool sf],.str raw]=some (some ((∃ R,InvR R c∧(⟨st,ls,c⟩:BI)=asI R c∧(raw≠[]→2≤R.length)∧x.length≤524000)),.int .i64 (takeI ⟨st,ls,c⟩ ⟨k,p,n,m,x,a,sf⟩ raw).2,[.pb [.own true ⟨.opn,(takeI ⟨st,ls,c⟩ ⟨k,p,n,m,x,a,sf⟩ raw).1.st⟩,.own true ⟨.nodes,(takeI ⟨st,ls,c⟩ ⟨k,p,n,m,x,a,sf⟩ raw).1.ls⟩,.int .i64 (takeI ⟨st,ls,c⟩ ⟨k,p,n,m,x,a,sf⟩ raw).1.c]]):=rfl
noncomputable def e_takeI:Env:=mk [(134,sp_wordsI),(75,sp_endI),(135,sp_putI),(136,sp_opensI),(137,sp_closesI)] [] [] [] none
@[push_cast] theorem e_takeI_e:MkE e_takeI [(134,sp_wordsI),(75,sp_endI),(135,sp_putI),(136,sp_opensI),(137,sp_closesI)] [] [] [] none:=⟨rfl,rfl,rfl,rfl,rfl,rfl,rfl⟩
theorem c_takeI:CRow P0 ety0 74 sp_takeI:=CRow.of (E:=e_takeI) (mkOk (.cons c_wordsI (.cons c_endI (.cons c_putI (.cons c_opensI (.cons c_closesI (.nil))))))) func74 rfl rfl rfl (by
 intro args p r outs h hq
 simp only [sp_takeI] at h;split at h<;>cases h
 rename_i st ls c k p n m x a sf raw
 obtain ⟨R,hI,hb,hr,hx⟩:=hq _ rfl
 obtain ⟨rfl,rfl,_⟩:=BI.mk.inj hb
 obtain ⟨i1,i2,i3⟩:=inv_len hI
 refine Body.intro (rs:=[.tmp 6]) rfl rfl rfl ?_
 apply vc_run 1000 (stop:=false) rfl;simp only [push_cast,simprocAttr]
 have hc0:=hI.2.2.1
 have hc1:=hI.2.2.2.1
 have ht1:∀ h:k=1,takeI ⟨stkR R,(lsR R).reverse,c⟩ ⟨k,p,n,m,x,a,sf⟩ raw=wordsI ⟨stkR R,(lsR R).reverse,c⟩ x:=fun h=>if_pos h
 have ht2:∀ (h:¬ k=1) (h2:raw≠[]),takeI ⟨stkR R,(lsR R).reverse,c⟩ ⟨k,p,n,m,x,a,sf⟩ raw=(endI ⟨stkR R,(lsR R).reverse,c⟩,0):=fun h h2=>by unfold takeI;rw [if_neg h,if_pos h2]
 have ht3:∀ (h:¬ k=1) (h2:¬ raw≠[]) (h3:k=4),takeI ⟨stkR R,(lsR R).reverse,c⟩ ⟨k,p,n,m,x,a,sf⟩ raw=putI ⟨stkR R,(lsR R).reverse,c⟩ (.mk 3 0 [] x [] []):=fun h h2 h3=>by unfold takeI;rw [if_neg h,if_neg h2,if_pos h3]
 have ht4:∀ (h:¬ k=1) (h2:¬ raw≠[]) (h3:¬ k=4) (h4:k=2),takeI ⟨stkR R,(lsR R).reverse,c⟩ ⟨k,p,n,m,x,a,sf⟩ raw=opensI ⟨stkR R,(lsR R).reverse,c⟩ ⟨k,p,n,m,x,a,sf⟩:=fun h h2 h3 h4=>by unfold takeI;rw [if_neg h,if_neg h2,if_neg h3,if_pos h4]
 have ht5:∀ (h:¬ k=1) (h2:¬ raw≠[]) (h3:¬ k=4) (h4:¬ k=2) (h5:k=3),takeI ⟨stkR R,(lsR R).reverse,c⟩ ⟨k,p,n,m,x,a,sf⟩ raw=(closesI ⟨stkR R,(lsR R).reverse,c⟩ m,0):=fun h h2 h3 h4 h5=>by unfold takeI;rw [if_neg h,if_neg h2,if_neg h3,if_neg h4,if_pos h5]
 have ht6:∀ (h:¬ k=1) (h2:¬ raw≠[]) (h3:¬ k=4) (h4:¬ k=2) (h5:¬ k=3),takeI ⟨stkR R,(lsR R).reverse,c⟩ ⟨k,p,n,m,x,a,sf⟩ raw=(⟨stkR R,(lsR R).reverse,c⟩,0):=fun h h2 h3 h4 h5=>by unfold takeI;rw [if_neg h,if_neg h2,if_neg h3,if_neg h4,if_neg h5]
 refine ⟨fun g1=>?_,fun g1=>⟨fun g2=>?_,fun g2=>⟨fun g3=>?_,fun g3=>⟨fun g4=>?_,fun g4=>⟨fun g5=>?_,fun g5=>?_⟩⟩⟩⟩⟩
 ·rw [ht1 (of_decide_eq_true g1)]
  exact ⟨⟨i1,by omega,inv_lists hI,hc0,by omega,hx⟩,rfl,rfl⟩
 ·have g2:raw≠[]:=by simpa using g2
  rw [ht2 (of_decide_eq_false g1) g2]
  exact ⟨end_pre hI (hr g2),rfl,rfl⟩
 ·rw [ht3 (of_decide_eq_false g1) (by simpa using g2) (of_decide_eq_true g3)]
  exact ⟨⟨i1,by omega,fun l hl=>(inv_lists hI l hl).1,hc0,by omega⟩,rfl,rfl⟩
 ·rw [ht4 (of_decide_eq_false g1) (by simpa using g2) (of_decide_eq_false g3) (of_decide_eq_true g4)]
  exact ⟨⟨R,hI.1,hI.2.1,hI,rfl⟩,rfl,rfl⟩
 ·rw [ht5 (of_decide_eq_false g1) (by simpa using g2) (of_decide_eq_false g3) (of_decide_eq_false g4) (of_decide_eq_true g5)]
  refine ⟨⟨R,hI,rfl⟩,rfl,?_⟩
  have:=closesR_asI hI.1 c m
  rw [show (⟨stkR R,(lsR R).reverse,c⟩:BI)=asI R c from rfl,this]
  rfl
 ·rw [ht6 (of_decide_eq_false g1) (by simpa using g2) (of_decide_eq_false g3) (of_decide_eq_false g4) (of_decide_eq_false g5)]
  exact ⟨rfl,rfl⟩)
end Go.Ab
