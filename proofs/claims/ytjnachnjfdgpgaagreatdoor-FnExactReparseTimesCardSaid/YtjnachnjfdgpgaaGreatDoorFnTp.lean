import Derived.Test.YtjnachnjfdgpgaaGreatDoorFnTo
set_option linter.all false
set_option maxRecDepth 20000
set_option maxHeartbeats 1000000
namespace Go.Ab
open Go Go.Proofs.Tryz
open Go.Lib
noncomputable def e_isLet2:Env:=mk [] [] [] [] none
@[push_cast] theorem e_isLet2_e:MkE e_isLet2 [] [] [] [] none:=⟨rfl,rfl,rfl,rfl,rfl,rfl,rfl⟩
theorem c_isLet2:CRow P0 ety0 116 sp_isLet:=CRow.of (E:=e_isLet2) (mkOk (.nil)) func116 rfl rfl rfl (by
 intro args p r outs h hq
 simp only [sp_isLet] at h;split at h<;>cases h
 rename_i c
 refine Body.intro (rs:=[.tmp 2]) rfl rfl rfl ?_
 apply vc_run 1000 (stop:=false) rfl;simp only [push_cast,simprocAttr]
 unfold letterB rngB
 cases decide (97≤c)<;>cases decide (c≤122)<;>rfl)
noncomputable def sp_word:Spec:=⟨[.sc,.sc],[.rd,.rd],false,fun
 | [.str t,.int .i64 i]=>some (some (0≤i∧i < t.length∧t.length≤524000),.agg [.int .i64 1,.int .i64 i,.int .i64 ((wordS t i.toNat).len),.str [],.str (wordS t i.toNat).text,.own true ⟨.attr,[]⟩,.bool false],[])
 | _=>none⟩
@[push_cast] theorem sp_word_s:sp_word.ps=[.sc,.sc]∧sp_word.modes=[.rd,.rd]∧sp_word.pure=false:=⟨rfl,rfl,rfl⟩
@[push_cast] theorem sp_word_run (t:Str) (i:Int):sp_word.run [.str t,.int .i64 i]=some (some (0≤i∧i < t.length∧t.length≤524000),.agg [.int .i64 1,.int .i64 i,.int .i64 ((wordS t i.toNat).len),.str [],.str (wordS t i.toNat).text,.own true ⟨.attr,[]⟩,.bool false],[]):=rfl
noncomputable def e_word:Env:=mk [(186,sp_unesc)] [] [(2000000,[.nib .attr 4 5])] [] none
@[push_cast] theorem e_word_e:MkE e_word [(186,sp_unesc)] [] [(2000000,[.nib .attr 4 5])] [] none:=⟨rfl,rfl,rfl,rfl,rfl,rfl,rfl⟩
theorem c_word:CRow P0 ety0 115 sp_word:=CRow.of (E:=e_word) (mkOk (.cons c_unesc2 (.nil))) func115 rfl rfl rfl (by
 intro args p r outs h hq
 simp only [sp_word] at h;split at h<;>cases h
 rename_i t i
 obtain ⟨h0,h1,hl⟩:=hq _ rfl
 obtain ⟨a,rfl⟩:∃ a:Nat,i=a:=⟨i.toNat,by omega⟩
 simp only [Int.toNat_natCast]
 refine Body.intro (rs:=[.cell 4 83]) rfl rfl rfl ?_
 apply vc_run 1000 (stop:=false) rfl;simp only [push_cast,simprocAttr]
 refine ⟨by constructor<;>omega,?_⟩
 refine Run.loop [5] [0,1,4] [0] rfl (fun n vs bs=>∃ k:Nat,vs=[.int .i64 k]∧bs=[[.int .i64 0,.int .i64 0,.int .i64 0,.str [],.str [],.nilS,.bool false]]∧a+1≤k∧k≤t.length∧(∀ j,a+1≤j→j < k→isB 60 (t.getD j 0)=false)∧n=t.length - k) (t.length - (a+1)) ?_ ?_
 ·simp only [push_cast,simprocAttr]
  exact ⟨a+1,rfl,Nat.le_refl _,by omega,fun j h h'=>by omega,rfl⟩
 rintro n vs bs ⟨k,rfl,rfl,hak,hk,hb,rfl⟩
 simp only [push_cast,simprocAttr]
 apply vc_run 1000 (stop:=false) rfl;simp only [push_cast,simprocAttr]
 simp only [byteAt_k,cutN]
 refine ⟨fun h=>by have:=of_decide_eq_true h;omega,fun hy=>?_,fun hn=>?_⟩
 ·obtain ⟨hlt,hc⟩:=scan_bif hy
  exact ⟨by constructor<;>omega,_,by omega,k+1,rfl,by omega,by omega,scan_more hb (by simpa [isB] using hc),rfl⟩
 ·have hsl:=slice_le t a k
  have e:scanU (isB 60) t (a+1)=k:=scanU_at hak hk hb fun h=>by simpa [isB] using scan_bif0 hn h
  refine ⟨by constructor<;>omega,by omega,by omega,?_⟩
  unfold wordS
  rw [e])
noncomputable def sp_comm2:Spec:=⟨[.sc,.sc,.sc,.sc],[.rd,.rd,.rd,.rd],false,fun
 | [.str t,.int .i64 i,.int .i64 b,.str w]=>some (some (0≤i∧i≤b∧b≤t.length∧w≠[]∧w.length≤3∧t.length≤524000),.agg [.int .i64 4,.int .i64 i,.int .i64 (((endT t b.toNat w).2:Nat) - i),.str [],.str (sliceS t b.toNat (endT t b.toNat w).1),.own true ⟨.attr,[]⟩,.bool false],[])
 | _=>none⟩
@[push_cast] theorem sp_comm2_s:sp_comm2.ps=[.sc,.sc,.sc,.sc]∧sp_comm2.modes=[.rd,.rd,.rd,.rd]∧sp_comm2.pure=false:=⟨rfl,rfl,rfl⟩
@[push_cast] theorem sp_comm2_run (t w:Str) (i b:Int):sp_comm2.run [.str t,.int .i64 i,.int .i64 b,.str w]=some (some (0≤i∧i≤b∧b≤t.length∧w≠[]∧w.length≤3∧t.length≤524000),.agg [.int .i64 4,.int .i64 i,.int .i64 (((endT t b.toNat w).2:Nat) - i),.str [],.str (sliceS t b.toNat (endT t b.toNat w).1),.own true ⟨.attr,[]⟩,.bool false],[]):=rfl
noncomputable def e_comm2:Env:=mk [(190,sp_find)] [] [(2000000,[.nib .attr 8 5])] [] none
@[push_cast] theorem e_comm2_e:MkE e_comm2 [(190,sp_find)] [] [(2000000,[.nib .attr 8 5])] [] none:=⟨rfl,rfl,rfl,rfl,rfl,rfl,rfl⟩
theorem c_comm2:CRow P0 ety0 119 sp_comm2:=CRow.of (E:=e_comm2) (mkOk (.cons c_find (.nil))) func119 rfl rfl rfl (by
 intro args p r outs h hq
 simp only [sp_comm2] at h;split at h<;>cases h
 rename_i t i b w
 obtain ⟨h0,h1,h2,h3,h4,h5⟩:=hq _ rfl
 obtain ⟨a,rfl⟩:∃ a:Nat,i=a:=⟨i.toNat,by omega⟩
 obtain ⟨c,rfl⟩:∃ c:Nat,b=c:=⟨b.toNat,by omega⟩
 refine Body.intro (rs:=[.cell 8 83]) rfl rfl rfl ?_
 apply vc_run 1000 (stop:=false) rfl;simp only [push_cast,simprocAttr]
 simp only [Int.toNat_natCast,cutN]
 have hf:=@firstP_some (occS t w) c t.length
 unfold endT
 cases h:findS t w c with
 | none =>
  simp only [Option.getD_none]
  exact ⟨⟨by omega,h3,by omega,by omega,by omega⟩,by constructor<;>omega,fun h=>(by cases h),fun _=>⟨by omega,trivial⟩⟩
 | some k =>
  obtain ⟨f1,f2,f3⟩:=hf h
  simp only [Option.getD_some]
  refine ⟨⟨by omega,h3,by omega,by omega,by omega⟩,by constructor<;>omega,fun _=>⟨by constructor<;>omega,by omega,?_⟩,fun h=>(by cases h)⟩
  rw [show (k:Int) - (a:Int)+(w.length:Nat)=((k+w.length:Nat):Int) - (a:Int) by omega])
noncomputable def e_clos2:Env:=mk [(187,sp_l04Name),(190,sp_find),(154,sp_tagOK)] [] [(2000000,[.nib .attr 4 5])] [] none
@[push_cast] theorem e_clos2_e:MkE e_clos2 [(187,sp_l04Name),(190,sp_find),(154,sp_tagOK)] [] [(2000000,[.nib .attr 4 5])] [] none:=⟨rfl,rfl,rfl,rfl,rfl,rfl,rfl⟩
theorem c_clos2:CRow P0 ety0 118 sp_clos:=CRow.of (E:=e_clos2) (mkOk (.cons c_l04Name (.cons c_find (.cons c_tagOK2 (.nil))))) func118 rfl rfl rfl (by
 intro args p r outs h hq
 simp only [sp_clos] at h;split at h<;>cases h
 rename_i t i
 obtain ⟨h0,h1,hl⟩:=hq _ rfl
 obtain ⟨a,rfl⟩:∃ a:Nat,i=a:=⟨i.toNat,by omega⟩
 simp only [Int.toNat_natCast]
 have s1:=scanU_ge tagStop t (a+2)
 have s2:=scanU_le tagStop (t:=t) (i:=a+2) (by omega)
 refine Body.intro (rs:=[.cell 4 83]) rfl rfl rfl ?_
 apply vc_run 1000 (stop:=false) rfl;simp only [push_cast,simprocAttr]
 have hx:((a:Int)+2).toNat=a+2:=by omega
 unfold closeS
 simp only [hx,Int.toNat_natCast]
 generalize scanU tagStop t (a+2)=e at *
 have el:=slice_le t (a+2) e
 have ll:(lowS (sliceS t (a+2) e)).length≤t.length:=by unfold lowS;rw [List.length_map];exact el
 have hf:=@firstP_some (occS t [62]) e t.length
 refine ⟨by constructor<;>omega,by omega,⟨by omega,by simp,by omega,by omega⟩,?_⟩
 cases h:findS t [62] e with
 | none=>exact ⟨fun _=>⟨by constructor<;>omega,rfl⟩,fun h=>(by cases h)⟩
 | some k =>
  obtain ⟨f1,f2,f3⟩:=hf h
  simp only [Option.getD_some]
  refine ⟨fun h=>(by cases h),fun _=>?_⟩
  cases htg:tagOK (lowS (sliceS t (a+2) e)) with
  | false=>exact ⟨by omega,fun _=>⟨by constructor<;>omega,by constructor<;>omega,rfl⟩,fun h=>(by cases h)⟩
  | true=>exact ⟨by omega,fun h=>(by cases h),fun _=>⟨by constructor<;>omega,by constructor<;>omega,rfl⟩⟩)
noncomputable def sp_keepT:Spec:=⟨[.sl .attr,.sc,.sc],[.tk,.rd,.rd],false,fun
 | [.own true ⟨.attr,l⟩,.str n,.str v]=>some (some ((l=[]∨attrsOK l=true)∧n.length≤524000∧v.length≤524000),.own true ⟨.attr,keepT l ⟨n,v⟩⟩,[])
 | _=>none⟩
@[push_cast] theorem sp_keepT_s:sp_keepT.ps=[.sl .attr,.sc,.sc]∧sp_keepT.modes=[.tk,.rd,.rd]∧sp_keepT.pure=false:=⟨rfl,rfl,rfl⟩
@[push_cast] theorem sp_keepT_run (l:List Attr) (n v:Str):sp_keepT.run [.own true ⟨.attr,l⟩,.str n,.str v]=some (some ((l=[]∨attrsOK l=true)∧n.length≤524000∧v.length≤524000),.own true ⟨.attr,keepT l ⟨n,v⟩⟩,[]):=rfl
noncomputable def e_keepT:Env:=mk [(234,sp_attrsOK)] [] [(14,[.lit])] [] none
@[push_cast] theorem e_keepT_e:MkE e_keepT [(234,sp_attrsOK)] [] [(14,[.lit])] [] none:=⟨rfl,rfl,rfl,rfl,rfl,rfl,rfl⟩
theorem c_keepT:CRow P0 ety0 189 sp_keepT:=CRow.of (E:=e_keepT) (mkOk (.cons c_attrsOK2 (.nil))) func189 rfl rfl rfl (by
 intro args p r outs h hq
 simp only [sp_keepT] at h;split at h<;>cases h
 rename_i l n v
 obtain ⟨hat,hn,hv⟩:=hq _ rfl
 have hl6:l.length≤6∧szL szAt l≤318:=by
  rcases hat with rfl | h
  ·simp [szL,sumL]
  ·exact attrsOK_sz h
 have hsz:szL szAt (l++[(⟨n,v⟩:Attr)])=szL szAt l+(1+(n.length+v.length)):=by simp [szL,sumL,szAt];omega
 refine Body.intro (rs:=[.tmp 6]) rfl rfl rfl ?_
 apply vc_run 1000 (stop:=false) rfl;simp only [push_cast,simprocAttr]
 unfold keepT
 refine ⟨by unfold sizeOk;omega,by unfold sizeOk;omega,by omega,fun h=>?_,fun h=>?_⟩
 ·rw [if_neg (by intro c;rw [c] at h;cases h)]
 ·rw [if_pos (by
   cases hc:attrsOK (l++[⟨n,v⟩]) with
   | true=>rfl
   | false=>rw [hc] at h;cases h)])
theorem cut_one {t:Str} {k:Nat} (h:k < t.length):cut t (k:Int) ((k:Int)+1)=[t.getD k 0]:=by
 rw [show (k:Int)+1=((k+1:Nat):Int) by omega,cutN]
 unfold sliceS
 rw [List.drop_take,show k+1 - k=1 by omega,List.drop_eq_getElem_cons h,List.take_succ_cons,List.take_zero]
 simp [List.getD,h]
theorem find_scan (t:Str) (c:UInt8) (i:Nat):findS t [c] i=if scanU (isB c) t i < t.length then some (scanU (isB c) t i) else none:=by
 have ho:∀ j,j < t.length→occS t [c] j=isB c (t.getD j 0):=fun j hj=>by
  unfold occS isB
  have e1:(t.drop j).take ([c]:Str).length=[t.getD j 0]:=by
   rw [List.drop_eq_getElem_cons hj,List.length_singleton,List.take_succ_cons,List.take_zero]
   simp [List.getD,hj]
  rw [e1]
  simp
 by_cases h:scanU (isB c) t i < t.length
 ·rw [if_pos h]
  exact firstP_at (scanU_ge _ _ _) h (fun j h1 h2=>by rw [ho j (by omega)];exact scanU_no h1 h2) (by rw [ho _ h];exact scanU_hit h)
 ·rw [if_neg h]
  exact firstP_none fun j h1 h2=>by rw [ho j h2];exact scanU_no h1 (by omega)
noncomputable def sp_attrb2:Spec:=⟨[.sc,.sc],[.rd,.rd],true,fun
 | [.str t,.int .i64 i]=>some (some (0≤i∧i < t.length∧t.length≤524000∧tagStop (t.getD i.toNat 0)=false),.tup [.str (attrS t i.toNat).1,.str (attrS t i.toNat).2.1,.int .i64 ((attrS t i.toNat).2.2:Nat)],[])
 | _=>none⟩
@[push_cast] theorem sp_attrb2_s:sp_attrb2.ps=[.sc,.sc]∧sp_attrb2.modes=[.rd,.rd]∧sp_attrb2.pure=true:=⟨rfl,rfl,rfl⟩
@[push_cast] theorem sp_attrb2_run (t:Str) (i:Int):sp_attrb2.run [.str t,.int .i64 i]=some (some (0≤i∧i < t.length∧t.length≤524000∧tagStop (t.getD i.toNat 0)=false),.tup [.str (attrS t i.toNat).1,.str (attrS t i.toNat).2.1,.int .i64 ((attrS t i.toNat).2.2:Nat)],[]):=rfl
noncomputable def e_attrb2:Env:=mk [(185,sp_isBlank),(184,sp_lowS),(190,sp_find),(186,sp_unesc)] [] [] [] none
@[push_cast] theorem e_attrb2_e:MkE e_attrb2 [(185,sp_isBlank),(184,sp_lowS),(190,sp_find),(186,sp_unesc)] [] [] [] none:=⟨rfl,rfl,rfl,rfl,rfl,rfl,rfl⟩
theorem c_attrb2:CRow P0 ety0 188 sp_attrb2:=CRow.of (E:=e_attrb2) (mkOk (.cons c_isBlank2 (.cons c_lowS2 (.cons c_find (.cons c_unesc2 (.nil)))))) func188 rfl rfl rfl (by
 intro args p r outs h hq
 simp only [sp_attrb2] at h;split at h<;>cases h
 rename_i t i
 obtain ⟨h0,h1,hl,hst⟩:=hq _ rfl
 obtain ⟨a,rfl⟩:∃ a:Nat,i=a:=⟨i.toNat,by omega⟩
 simp only [Int.toNat_natCast] at hst ⊢
 refine Body.intro (rs:=[.tmp 4,.tmp 5,.tmp 6]) rfl rfl rfl ?_
 apply vc_run 1000 (stop:=false) rfl;simp only [push_cast,simprocAttr]
 refine Run.loop [7] [0,1] [] rfl (fun n vs bs=>∃ k:Nat,vs=[.int .i64 k]∧bs=[]∧a≤k∧k≤t.length∧(∀ j,a+1≤j→j < k→nameStop (t.getD j 0)=false)∧n=t.length - k) (t.length - a) ?_ ?_
 ·simp only [push_cast,simprocAttr]
  exact ⟨a,rfl,Nat.le_refl _,by omega,fun j h h'=>by omega,rfl⟩
 rintro n vs bs ⟨k,rfl,rfl,hak,hk,hb,rfl⟩
 simp only [push_cast,simprocAttr]
 apply vc_run 1000 (stop:=false) rfl;simp only [push_cast,simprocAttr]
 simp only [byteAt_k,cutN]
 have hlt:∀ {x:Bool},(bif decide ((k:Int) < (t.length:Nat)) then x else false)=true→k < t.length:=fun h=>(scan_bif h).1
 have e:(bif bif bif bif decide ((k:Int) < (t.length:Nat)) then !blankB (t.getD k 0) else false then !decide (t.getD k 0=47) else false then !decide (t.getD k 0=62) else false then bif !decide (t.getD k 0=61) then true else decide ((k:Int)=(a:Int)) else false)=(bif decide ((k:Int) < (t.length:Nat)) then (decide (k=a) || !nameStop (t.getD k 0)) else false):=by
  have ed:decide ((k:Int)=(a:Int))=decide (k=a):=decide_eq_decide.2 (by omega)
  rw [ed]
  by_cases hka:k=a
  ·subst hka
   unfold tagStop at hst
   simp only [Bool.or_eq_false_iff] at hst
   rw [hst.1,hst.2.1,hst.2.2,decide_eq_true (rfl:k=k)]
   cases decide ((k:Int) < (t.length:Nat))<;>cases decide (t.getD k 0=61)<;>rfl
  ·rw [decide_eq_false hka]
   unfold nameStop
   cases decide ((k:Int) < (t.length:Nat))<;>cases blankB (t.getD k 0)<;>cases decide (t.getD k 0=47)<;>cases decide (t.getD k 0=62)<;>cases decide (t.getD k 0=61)<;>rfl
 have lt3:∀ {x y z:Bool},(bif bif bif decide ((k:Int) < (t.length:Nat)) then x else false then y else false then z else false)=true→k < t.length:=fun {x y z} h=>by
  revert h
  by_cases hk:k < t.length
  ·exact fun _=>hk
  ·rw [decide_eq_false (show ¬ (k:Int) < (t.length:Nat) by omega)];exact fun h=>by cases h
 have lt2:∀ {x y:Bool},(bif bif decide ((k:Int) < (t.length:Nat)) then x else false then y else false)=true→k < t.length:=fun {x y} h=>by
  revert h
  by_cases hk:k < t.length
  ·exact fun _=>hk
  ·rw [decide_eq_false (show ¬ (k:Int) < (t.length:Nat) by omega)];exact fun h=>by cases h
 rw [e]
 refine ⟨fun h=>by have:=of_decide_eq_true h;omega,fun h=>by have:=hlt h;omega,fun h=>by have:=lt2 h;omega,fun h=>by have:=lt3 h;omega,fun hy=>?_,fun hn=>⟨by omega,by have:=slice_le t a k;omega,?_⟩⟩
 ·obtain ⟨hk1,hc⟩:=scan_bif hy
  refine ⟨by constructor<;>omega,_,by omega,k+1,rfl,by omega,by omega,fun j hj1 hj2=>?_,rfl⟩
  rcases Nat.lt_or_eq_of_le (Nat.le_of_lt_succ hj2) with h' | rfl
  ·exact hb j hj1 h'
  ·rw [decide_eq_false (by omega),Bool.false_or] at hc
   simpa using hc
 have hka:a+1≤k:=by
  rcases Nat.lt_or_eq_of_le hak with h | rfl
  ·exact h
  ·rw [decide_eq_true (show (a:Int) < (t.length:Nat) by omega),decide_eq_true (rfl:a=a)] at hn
   cases hn
 have he:scanU nameStop t (a+1)=k:=scanU_at hka hk hb fun h=>by
  have:=scan_bif0 hn h
  rw [decide_eq_false (by omega),Bool.false_or] at this
  simpa using this
 unfold attrS
 rw [he]
 clear hn hb e hlt lt2 lt3 he
 dsimp only
 refine Run.loop [9] [0,7,8] [] rfl (fun n vs bs=>∃ m:Nat,vs=[.int .i64 m]∧bs=[]∧k≤m∧m≤t.length∧(∀ j,k≤j→j < m→notBl (t.getD j 0)=false)∧n=t.length - m) (t.length - k) ?_ ?_
 ·simp only [push_cast,simprocAttr]
  exact ⟨k,rfl,Nat.le_refl _,by omega,fun j h h'=>by omega,rfl⟩
 rintro n vs bs ⟨m,rfl,rfl,hkm,hm,hb,rfl⟩
 simp only [push_cast,simprocAttr]
 apply vc_run 1000 (stop:=false) rfl;simp only [push_cast,simprocAttr]
 simp only [byteAt_k,cutN]
 refine ⟨fun h=>by have:=of_decide_eq_true h;omega,fun hy=>?_,fun hn=>?_⟩
 ·obtain ⟨h2,hc⟩:=scan_bif hy
  exact ⟨by constructor<;>omega,_,by omega,m+1,rfl,by omega,by omega,scan_more hb (by simpa [notBl] using hc),rfl⟩
 have he:scanU notBl t k=m:=scanU_at hkm hm hb fun h=>by simpa [notBl] using scan_bif0 hn h
 rw [he]
 clear hn hb he
 refine ⟨fun h=>by have:=of_decide_eq_false h;omega,fun h=>?_,fun h=>?_⟩
 ·have hc:¬ (m < t.length∧t.getD m 0=61):=fun c=>by
   rw [decide_eq_false (by omega),decide_eq_true c.2] at h
   cases h
  rw [if_neg hc]
 obtain ⟨hml,m61⟩:m < t.length∧t.getD m 0=61:=by
  by_cases hk:m=t.length
  ·rw [decide_eq_true (by omega)] at h;cases h
  ·rw [decide_eq_false (by omega)] at h;exact ⟨by omega,by simpa using h⟩
 rw [if_pos ⟨hml,m61⟩]
 clear h
 refine ⟨by constructor<;>omega,?_⟩
 refine Run.loop [9] [0,7,8] [] rfl (fun n vs bs=>∃ b:Nat,vs=[.int .i64 b]∧bs=[]∧m+1≤b∧b≤t.length∧(∀ j,m+1≤j→j < b→notBl (t.getD j 0)=false)∧n=t.length - b) (t.length - (m+1)) ?_ ?_
 ·simp only [push_cast,simprocAttr]
  exact ⟨m+1,rfl,Nat.le_refl _,by omega,fun j h h'=>by omega,rfl⟩
 rintro n vs bs ⟨b,rfl,rfl,hmb,hbl,hb,rfl⟩
 simp only [push_cast,simprocAttr]
 apply vc_run 1000 (stop:=false) rfl;simp only [push_cast,simprocAttr]
 simp only [byteAt_k,cutN]
 refine ⟨fun h=>by have:=of_decide_eq_true h;omega,fun hy=>?_,fun hn=>?_⟩
 ·obtain ⟨h2,hc⟩:=scan_bif hy
  exact ⟨by constructor<;>omega,_,by omega,b+1,rfl,by omega,by omega,scan_more hb (by simpa [notBl] using hc),rfl⟩
 have he:scanU notBl t (m+1)=b:=scanU_at hmb hbl hb fun h=>by simpa [notBl] using scan_bif0 hn h
 rw [he]
 clear hn hb he
 refine ⟨fun h=>by have:=of_decide_eq_true h;omega,fun h=>by have:=of_decide_eq_true h.1;omega,fun h=>?_,fun h=>?_⟩
 ·obtain ⟨hb1,hq⟩:=scan_bif h
  have hq:t.getD b 0=34∨t.getD b 0=39:=by
   by_cases h34:t.getD b 0=34
   ·exact .inl h34
   ·rw [decide_eq_false h34] at hq;exact .inr (of_decide_eq_true hq)
  have hx1:((b:Int)+1).toNat=b+1:=by omega
  rw [if_pos ⟨hb1,hq⟩,cut_one hb1,hx1,find_scan]
  have q1:=scanU_ge (isB (t.getD b 0)) t (b+1)
  have q2:=scanU_le (isB (t.getD b 0)) (t:=t) (i:=b+1) (by omega)
  generalize scanU (isB (t.getD b 0)) t (b+1)=q at *
  refine ⟨by constructor<;>omega,by omega,by constructor<;>omega,⟨by omega,by simp,by simp,by omega,by omega⟩,?_⟩
  by_cases hql:q < t.length
  ·have e1:cut t ((b:Int)+1) (q:Nat)=sliceS t (b+1) q:=by rw [show (b:Int)+1=((b+1:Nat):Int) by omega,cutN]
   simp only [if_pos hql,Option.isSome_some,Option.getD_some,e1]
   have:=slice_le t (b+1) q
   exact ⟨fun h=>(by cases h),fun _=>⟨by constructor<;>omega,by omega,by omega,by constructor<;>omega,rfl⟩⟩
  ·simp only [if_neg hql,Option.isSome_none]
   exact ⟨fun _=>trivial,fun h=>(by cases h)⟩
 ·have hc:¬ (b < t.length∧(t.getD b 0=34∨t.getD b 0=39)):=fun c=>by
   rw [decide_eq_true (show (b:Int) < (t.length:Nat) by omega)] at h
   rcases c.2 with c | c
   ·rw [decide_eq_true c] at h;cases h
   ·rw [decide_eq_true c] at h
    cases hd:decide (t.getD b 0=34)<;>rw [hd] at h<;>cases h
  rw [if_neg hc]
  clear h hc
  refine Run.loop [7] [0,8,9] [] rfl (fun n vs bs=>∃ v:Nat,vs=[.int .i64 v]∧bs=[]∧b≤v∧v≤t.length∧(∀ j,b≤j→j < v→valStop (t.getD j 0)=false)∧n=t.length - v) (t.length - b) ?_ ?_
  ·simp only [push_cast,simprocAttr]
   exact ⟨b,rfl,Nat.le_refl _,by omega,fun j h h'=>by omega,rfl⟩
  rintro n vs bs ⟨v,rfl,rfl,hbv,hv,hb,rfl⟩
  simp only [push_cast,simprocAttr]
  apply vc_run 1000 (stop:=false) rfl;simp only [push_cast,simprocAttr]
  simp only [byteAt_k,cutN]
  have e:(bif bif decide ((v:Int) < (t.length:Nat)) then !blankB (t.getD v 0) else false then !decide (t.getD v 0=62) else false)=(bif decide ((v:Int) < (t.length:Nat)) then !valStop (t.getD v 0) else false):=by
   unfold valStop
   cases decide ((v:Int) < (t.length:Nat))<;>cases blankB (t.getD v 0)<;>cases decide (t.getD v 0=62)<;>rfl
  rw [e]
  refine ⟨fun h=>by have:=of_decide_eq_true h;omega,fun h=>by have:=(scan_bif h).1;omega,fun hy=>?_,fun hn=>?_⟩
  ·obtain ⟨h2,hc⟩:=scan_bif hy
   exact ⟨by constructor<;>omega,_,by omega,v+1,rfl,by omega,by omega,scan_more hb (by simpa using hc),rfl⟩
  ·have he:scanU valStop t b=v:=scanU_at hbv hv hb fun h=>by simpa using scan_bif0 hn h
   have:=slice_le t b v
   rw [he]
   exact ⟨by omega,by omega,rfl⟩)
theorem attrS_len (t:Str) (i:Nat):(attrS t i).1.length≤t.length∧(attrS t i).2.1.length≤t.length:=by
 have hl:∀ i j,(lowS (sliceS t i j)).length≤t.length:=fun i j=>by unfold lowS;rw [List.length_map];exact slice_le t i j
 have hu:∀ i j,(unS (sliceS t i j)).length≤t.length:=fun i j=>Nat.le_trans (unS_len _ _ (Nat.le_refl _)) (slice_le t i j)
 unfold attrS
 dsimp only
 repeat' split
 all_goals exact ⟨hl _ _,by first | exact hu _ _ | exact Nat.zero_le _⟩
theorem keepT_ok {l:List Attr} {a:Attr} (h:l=[]∨attrsOK l=true):keepT l a=[]∨attrsOK (keepT l a)=true:=by
 unfold keepT
 split
 ·exact .inr ‹_›
 ·exact h
noncomputable def e_opn2:Env:=mk [(187,sp_l04Name),(185,sp_isBlank),(188,sp_attrb2),(189,sp_keepT),(154,sp_tagOK)] [] [(2000000,[.nib .attr 4 5])] [] none
@[push_cast] theorem e_opn2_e:MkE e_opn2 [(187,sp_l04Name),(185,sp_isBlank),(188,sp_attrb2),(189,sp_keepT),(154,sp_tagOK)] [] [(2000000,[.nib .attr 4 5])] [] none:=⟨rfl,rfl,rfl,rfl,rfl,rfl,rfl⟩
theorem c_opn2:CRow P0 ety0 117 sp_opn:=CRow.of (E:=e_opn2) (mkOk (.cons c_l04Name (.cons c_isBlank2 (.cons c_attrb2 (.cons c_keepT (.cons c_tagOK2 (.nil))))))) func117 rfl rfl rfl (by
 intro args p r outs h hq
 simp only [sp_opn] at h;split at h<;>cases h
 rename_i t i
 obtain ⟨h0,h1,hl⟩:=hq _ rfl
 obtain ⟨a,rfl⟩:∃ a:Nat,i=a:=⟨i.toNat,by omega⟩
 simp only [Int.toNat_natCast]
 have s1:=scanU_ge tagStop t (a+1)
 have s2:=scanU_le tagStop (t:=t) (i:=a+1) (by omega)
 refine Body.intro (rs:=[.cell 4 83]) rfl rfl rfl ?_
 apply vc_run 1000 (stop:=false) rfl;simp only [push_cast,simprocAttr]
 have hx:((a:Int)+1).toNat=a+1:=by omega
 simp only [hx,Int.toNat_natCast]
 have eo:openS t a=match opT t (scanU tagStop t (a+1)) false [] with
  | some q=>if tagOK (lowS (sliceS t (a+1) (scanU tagStop t (a+1))))=true then ⟨2,a,(q.1:Int)+1 - a,lowS (sliceS t (a+1) (scanU tagStop t (a+1))),[],q.2.2,q.2.1⟩ else noTok a (q.1+1)
  | none=>noTok a t.length:=rfl
 generalize openS t a=O at *
 generalize scanU tagStop t (a+1)=e0 at *
 have el:=slice_len (i:=a+1) s2
 have ll:(lowS (sliceS t (a+1) e0)).length=e0 - (a+1):=by unfold lowS;rw [List.length_map,el]
 generalize lowS (sliceS t (a+1) e0)=M at *
 refine ⟨by constructor<;>omega,by omega,?_⟩
 refine Run.loop [6] [0,1,4,5,7] [0,2] rfl (fun n vs bs=>∃ (e:Nat) (l:List Attr) (s:Bool),vs=[.int .i64 e]∧bs=[[.int .i64 0,.int .i64 0,.int .i64 0,.str [],.str [],.nilS,.bool false],[.int .i64 2,.int .i64 a,.int .i64 0,.str M,.str [],.own true ⟨.attr,l⟩,.bool s]]∧a+1≤e∧e≤t.length∧opT t e0 false []=opT t e s l∧(l=[]∨attrsOK l=true)∧n=t.length - e) (t.length - e0) ?_ ?_
 ·simp only [push_cast,simprocAttr]
  exact ⟨e0,[],false,rfl,rfl,s1,s2,rfl,.inl rfl,rfl⟩
 rintro n vs bs ⟨e,l,s,rfl,rfl,he1,he2,hop,hat,rfl⟩
 simp only [push_cast,simprocAttr]
 apply vc_run 1000 (stop:=false) rfl;simp only [push_cast,simprocAttr]
 simp only [Int.toNat_natCast,byteAt_k]
 have hstep:=opT_eq t e s l
 have hbo:∀ c:UInt8,(bif blankB c then true else decide (c=47))=(blankB c || decide (c=47)):=fun c=>by cases blankB c<;>rfl
 refine ⟨fun h=>by have:=of_decide_eq_true h;omega,fun h=>?_,fun h=>⟨fun h2=>?_,fun h2=>?_⟩⟩
 ·obtain ⟨hlt,h62⟩:=scan_bif h
  have h62:¬ t.getD e 0=62:=by simpa using h62
  rw [if_pos hlt,if_neg h62] at hstep
  refine ⟨by omega,fun _=>by omega,fun hb=>?_,fun hb=>?_⟩
  ·rw [hbo] at hb
   rw [if_pos hb] at hstep
   exact ⟨by omega,by constructor<;>omega,_,by omega,e+1,l,_,rfl,rfl,by omega,by omega,by rw [hop,hstep],hat,rfl⟩
  ·rw [hbo] at hb
   rw [if_neg (by rw [hb];simp)] at hstep
   obtain ⟨r1,r2,r3,r4,r5⟩:=attr_rel hlt
   obtain ⟨m1,m2⟩:=attrS_len t e
   obtain ⟨hb1,hb2⟩:=Bool.or_eq_false_iff.1 hb
   refine ⟨⟨by omega,by omega,hl,?_⟩,⟨hat,by omega,by omega⟩,_,?_,(attrS t e).2.2,_,_,rfl,rfl,by omega,r3,by rw [hop,hstep],keepT_ok hat,rfl⟩
   ·unfold tagStop
    rw [hb1,hb2,decide_eq_false h62];rfl
   ·omega
 ·have:=of_decide_eq_true h2
  rw [if_neg (by omega)] at hstep
  rw [hop,hstep] at eo
  subst eo
  exact ⟨by constructor<;>omega,rfl⟩
 ·have hlt:e < t.length:=by have:=of_decide_eq_false h2;omega
  have h62:t.getD e 0=62:=by simpa using scan_bif0 h hlt
  rw [if_pos hlt,if_pos h62] at hstep
  rw [hop,hstep] at eo
  simp only at eo
  refine ⟨by constructor<;>omega,by constructor<;>omega,by omega,fun htg=>?_,fun htg=>?_⟩
  ·rw [if_neg (by intro c;rw [c] at htg;cases htg)] at eo
   subst eo;rfl
  ·rw [if_pos (by cases hc:tagOK M with
    | true=>rfl
    | false=>rw [hc] at htg;cases htg)] at eo
   subst eo;rfl)
noncomputable def e_next2:Env:=mk [(114,sp_rawEnd),(115,sp_word),(116,sp_isLet),(117,sp_opn),(118,sp_clos),(119,sp_comm2)] [] [(2000000,[.nib .attr 6 5])] [] none
@[push_cast] theorem e_next2_e:MkE e_next2 [(114,sp_rawEnd),(115,sp_word),(116,sp_isLet),(117,sp_opn),(118,sp_clos),(119,sp_comm2)] [] [(2000000,[.nib .attr 6 5])] [] none:=⟨rfl,rfl,rfl,rfl,rfl,rfl,rfl⟩
theorem c_next2:CRow P0 ety0 64 sp_next:=CRow.of (E:=e_next2) (mkOk (.cons c_rawEnd2 (.cons c_word (.cons c_isLet2 (.cons c_opn2 (.cons c_clos2 (.cons c_comm2 (.nil)))))))) func64 rfl rfl rfl (by
 intro args p r outs h hq
 simp only [sp_next] at h;split at h<;>cases h
 rename_i t i raw
 obtain ⟨h0,h1,hr,hl⟩:=hq _ rfl
 obtain ⟨a,rfl⟩:∃ a:Nat,i=a:=⟨i.toNat,by omega⟩
 simp only [Int.toNat_natCast]
 have hal:a < t.length:=by omega
 refine Body.intro (rs:=[.cell 6 83]) rfl rfl rfl ?_
 apply vc_run 1000 (stop:=false) rfl;simp only [push_cast,simprocAttr]
 have hx2:((a:Int)+2).toNat=a+2:=by omega
 have hx4:((a:Int)+4).toNat=a+4:=by omega
 have b1:byteAt t ((a:Int)+1)=t.getD (a+1) 0:=by rw [show (a:Int)+1=((a+1:Nat):Int) by omega,byteAt_k]
 have b2:byteAt t ((a:Int)+2)=t.getD (a+2) 0:=by rw [show (a:Int)+2=((a+2:Nat):Int) by omega,byteAt_k]
 have c4:cut t (a:Int) ((a:Int)+4)=sliceS t a (a+4):=by rw [show (a:Int)+4=((a+4:Nat):Int) by omega,cutN]
 simp only [Int.toNat_natCast,byteAt_k,cutN,hx2,hx4,b1,b2,c4]
 have hre:=rawEnd_le (raw:=raw) (Nat.le_of_lt hal)
 refine ⟨fun hr1=>⟨by omega,fun hy=>?_,fun hn=>?_⟩,fun hr1=>?_⟩
 ·have hy:=of_decide_eq_true hy
  rw [next_raw ⟨by simpa using hr1,by omega⟩]
  exact ⟨by constructor<;>omega,by omega,rfl⟩
 all_goals
  have hrest:nextS t a raw=restS t a:=next_rest (fun c=>by
   first
    | (have:=of_decide_eq_false hn;omega)
    | (have:raw=[]:=by simpa using hr1
       exact c.1 this))
  rw [hrest]
  have hw4:sliceS t a (a+4)=[60,33,45,45]↔occS t [60,33,45,45] a=true:=by
   unfold sliceS occS
   rw [decide_eq_true_iff,List.drop_take,show a+4 - a=4 by omega];rfl
  refine ⟨by omega,fun _=>by constructor<;>omega,fun h=>?_,fun h=>?_⟩
  ·have hc:¬ (t.getD a 0=60∧a+1 < t.length):=fun c=>by
    rw [decide_eq_true c.1,decide_eq_false (show ¬ (a:Int)+1=(t.length:Nat) by omega)] at h
    cases h
   unfold restS
   rw [if_neg hc]
   exact ⟨by omega,rfl⟩
  obtain ⟨h60,hl1⟩:t.getD a 0=60∧a+1 < t.length:=by
   cases hd:decide (t.getD a 0=60) with
   | false=>rw [hd] at h;cases h
   | true =>
    rw [hd] at h
    have:=of_decide_eq_false h
    exact ⟨of_decide_eq_true hd,by omega⟩
  clear h
  unfold restS
  rw [if_pos ⟨h60,hl1⟩]
  refine ⟨by constructor<;>omega,by omega,fun hL=>?_,fun hL=>⟨fun _=>by constructor<;>omega,fun _=>by constructor<;>omega,fun h=>?_,fun h=>?_,fun h=>?_⟩⟩
  ·rw [if_pos hL,openS_text]
   exact ⟨by omega,rfl⟩
  ·cases hd:decide (t.getD (a+1) 0=47) with
   | false=>rw [hd] at h;cases h
   | true=>rw [hd] at h;have:=of_decide_eq_true h;omega
  ·obtain ⟨h47,hl2,hL2⟩:t.getD (a+1) 0=47∧a+2 < t.length∧letterB (t.getD (a+2) 0)=true:=by
    cases hd:decide (t.getD (a+1) 0=47) with
    | false=>rw [hd] at h;cases h
    | true =>
     rw [hd] at h
     cases hd2:decide ((a:Int)+2 < (t.length:Nat)) with
     | false=>rw [hd2] at h;cases h
     | true =>
      rw [hd2] at h
      have:=of_decide_eq_true hd2
      exact ⟨of_decide_eq_true hd,by omega,h⟩
   obtain ⟨c1,c2,c3⟩:=closeS_text t a
   rw [if_neg (by rw [hL];simp),if_pos ⟨h47,hl2,hL2⟩,c1,c2,c3]
   exact ⟨by omega,rfl⟩
  have hcn:¬ (t.getD (a+1) 0=47∧a+2 < t.length∧letterB (t.getD (a+2) 0)=true):=fun c=>by
   rw [decide_eq_true c.1,decide_eq_true (show (a:Int)+2 < (t.length:Nat) by omega),c.2.2] at h
   cases h
  clear h
  rw [if_neg (by rw [hL];simp),if_neg hcn]
  refine ⟨by constructor<;>omega,fun _=>by constructor<;>omega,fun h=>by have:=of_decide_eq_true h;omega,fun h=>?_,fun h=>?_⟩
  ·have hp:occS t [60,33,45,45] a=true:=by
    cases hd:decide ((a:Int)+4≤(t.length:Nat)) with
    | false=>rw [hd] at h;cases h
    | true=>rw [hd] at h;exact hw4.1 (of_decide_eq_true h)
   have hroom:=(occS_room hp (by simp)).1
   simp only [List.length_cons,List.length_nil] at hroom
   rw [if_pos hp]
   exact ⟨by constructor<;>omega,⟨by omega,by omega,by omega,by simp,hl⟩,rfl⟩
  have hp:¬ occS t [60,33,45,45] a=true:=fun c=>by
   have hroom:=(occS_room c (by simp)).1
   simp only [List.length_cons,List.length_nil] at hroom
   rw [decide_eq_true (show (a:Int)+4≤(t.length:Nat) by omega),decide_eq_true (hw4.2 c)] at h
   cases h
  clear h
  rw [if_neg hp]
  refine ⟨fun h3=>?_,fun h3=>?_⟩
  ·rw [or3] at h3
   rw [if_pos (of_decide_eq_true h3)]
   exact ⟨by constructor<;>omega,⟨by omega,by omega,by omega,by simp,hl⟩,rfl⟩
  ·rw [or3] at h3
   rw [if_neg (of_decide_eq_false h3)]
   exact ⟨by omega,rfl⟩)
end Go.Ab
