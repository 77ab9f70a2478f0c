import Derived.Test.YtjnachnjfdgpgaaGreatDoorPlNum
set_option linter.all false
set_option maxRecDepth 20000
set_option maxHeartbeats 1000000
namespace Go.Ab
open Go Go.Proofs.Tryz
open Go.Lib
theorem dv_lt:∀ r:Str,r.all digitB=true→dv r < 10 ^ r.length:=rev_ind (fun _=>by simp [dv]) fun r c ih h=>by
 rw [List.all_append,Bool.and_eq_true] at h
 have h1:=ih h.1
 have hc:=(digitB_iff c).1 (by simpa using h.2)
 rw [dv_snoc,List.length_append,List.length_cons,List.length_nil,Nat.pow_succ]
 omega
theorem dv_take {r:Str} {k:Nat} (h:(r.take k).all digitB=true) (hl:r.length≤18):dv (r.take k) < 1000000000000000000:=by
 have h1:=dv_lt _ h
 have h2:(10:Nat) ^ (r.take k).length≤10 ^ 18:=Nat.pow_le_pow_right (by omega) (by rw [List.length_take];omega)
 omega
theorem dv_step {r:Str} {k:Nat} (h:k < r.length):dv (r.take (k+1))=dv (r.take k) * 10+((r.getD k 0).toNat - 48):=by
 have e:r.getD k 0=r[k]:=by simp [List.getD,h]
 rw [List.take_succ_eq_append_getElem h,dv_snoc,e]
theorem all_step {r:Str} {k:Nat} (h:k < r.length) (hd:(r.take k).all digitB=true) (hc:digitB (r.getD k 0)=true):(r.take (k+1)).all digitB=true:=by
 have e:r.getD k 0=r[k]:=by simp [List.getD,h]
 rw [List.take_succ_eq_append_getElem h,List.all_append,hd,← e,List.all_cons,hc];rfl
theorem all_at {r:Str} {k:Nat} (h:k < r.length) (hc:digitB (r.getD k 0)=false):r.all digitB=false:=by
 rw [List.all_eq_false]
 have e:r.getD k 0=r[k]:=by simp [List.getD,h]
 exact ⟨r[k],List.getElem_mem h,by rw [← e,hc];simp⟩
theorem dv_take17 {r:Str} {k:Nat} (h:(r.take k).all digitB=true) (hk:k≤17):dv (r.take k) < 100000000000000000:=by
 have h1:=dv_lt _ h
 have h2:(10:Nat) ^ (r.take k).length≤10 ^ 17:=Nat.pow_le_pow_right (by omega) (by rw [List.length_take];omega)
 omega
theorem digit_bif (c:UInt8):(bif decide (c < 48) then true else decide (57 < c))=!digitB c:=by
 have h1:decide (c < 48)=!decide (48≤c):=by
  by_cases h:(48:UInt8)≤c
  ·rw [decide_eq_true h,decide_eq_false (UInt8.not_lt.2 h)];rfl
  ·rw [decide_eq_false h,decide_eq_true (UInt8.not_le.1 h)];rfl
 have h2:decide (57 < c)=!decide (c≤57):=by
  by_cases h:c≤(57:UInt8)
  ·rw [decide_eq_true h,decide_eq_false (UInt8.not_lt.2 h)];rfl
  ·rw [decide_eq_false h,decide_eq_true (UInt8.not_le.1 h)];rfl
 rw [h1,h2]
 unfold digitB rngB
 cases decide (48≤c)<;>cases decide (c≤57)<;>rfl
noncomputable def sp_number2:Spec:=⟨[.sc],[.rd],true,fun
 | [.str t]=>some (some (t.length≤281474976710656),.tup [.int .i64 (numV t),.bool (numOK t)],[])
 | _=>none⟩
@[push_cast] theorem sp_number2_s:sp_number2.ps=[.sc]∧sp_number2.modes=[.rd]∧sp_number2.pure=true:=⟨rfl,rfl,rfl⟩
@[push_cast] theorem sp_number2_run (t:Str):sp_number2.run [.str t]=some (some (t.length≤281474976710656),.tup [.int .i64 (numV t),.bool (numOK t)],[]):=rfl
noncomputable def e_l00Number:Env:=mk [] [] [] [] none
@[push_cast] theorem e_l00Number_e:MkE e_l00Number [] [] [] [] none:=⟨rfl,rfl,rfl,rfl,rfl,rfl,rfl⟩
theorem c_l00Number:CRow P0 ety0 254 sp_number2:=CRow.of (E:=e_l00Number) (mkOk (.nil)) func254 rfl rfl rfl (by
 intro args p r outs h hq
 simp only [sp_number2] at h;split at h<;>cases h
 rename_i t
 have hs:=hq _ rfl
 refine Body.intro (rs:=[.tmp 2,.tmp 3]) rfl rfl rfl ?_
 apply vc_run 1000 (stop:=false) rfl;simp only [push_cast,simprocAttr]
 refine ⟨fun h=>of_decide_eq_true h,fun hneg=>?_,fun hpos=>?_⟩
 ·obtain ⟨r,rfl⟩:∃ r,t=45 :: r:=by
   cases t with
   | nil=>simp at hneg
   | cons c r =>
    have:byteAt (c :: r) 0=c:=rfl
    rw [this] at hneg
    simp at hneg
    exact ⟨r,by rw [hneg]⟩
  have hc:cut (45 :: r) 1 ((45 :: r).length:Nat)=r:=by simp [cut]
  simp only [hc]
  have hh:decide (byteAt r 0=48)=decide (r.head?=some 48)∨r=[]:=by
   cases r with
   | nil=>exact .inr rfl
   | cons x r=>left;congr 1;simp [byteAt]
  have hb:∀ b,(bif bif decide ((r.length:Int)=0) then true else decide ((18:Int) < r.length) then true else bif decide (byteAt r 0=48) then bif decide ((1:Int) < r.length) then true else true else false)=b→(b=true↔(r.length=0∨18 < r.length∨r.head?=some 48)):=by
   intro b e
   subst e
   rcases hh with hh | rfl
   ·rw [hh]
    by_cases h0:r.length=0
    ·simp [h0]
    ·by_cases h18:18 < r.length
     ·have:(18:Int) < r.length:=by omega
      simp [h18,this]
     ·have h18':¬ (18:Int) < r.length:=by omega
      have h0':¬ (r.length:Int)=0:=by omega
      by_cases h48:r.head?=some 48
      ·simp [h0',h18',h48]
      ·simp only [decide_eq_false h48,decide_eq_false h0',decide_eq_false h18',cond_false]
       simp only [Bool.false_eq_true,false_iff]
       rintro (h | h | h)
       ·exact h0 h
       ·exact h18 h
       ·exact h48 h
   ·simp
  refine ⟨by simp only [List.length_cons];omega,fun h=>?_,fun h=>?_,fun h=>?_⟩
  ·by_cases h0:r.length=0
   ·simp [h0] at h
   ·omega
  ·have hn:=(hb _ h).1 rfl
   rw [numV,numOK,numS_neg,if_pos hn];rfl
  have hn:¬ (r.length=0∨18 < r.length∨r.head?=some 48):=fun e=>by have:=(hb _ h).2 e;cases this
  refine Run.loop [2,3,5,6] [0,4] [] rfl (fun n vs bs=>∃ k:Nat,vs=[.int .i64 0,.bool false,.int .i64 (dv (r.take k)),.int .i64 k]∧bs=[]∧k≤r.length∧(r.take k).all digitB=true∧n=r.length - k) r.length ?_ ?_
  ·simp only [push_cast,simprocAttr]
   exact ⟨0,by simp [dv],by omega,by simp,by omega⟩
  rintro n vs bs ⟨k,rfl,rfl,hk,hd,rfl⟩
  simp only [push_cast,simprocAttr]
  apply vc_run 1000 (stop:=false) rfl;simp only [push_cast,simprocAttr]
  have hlt18:=dv_take hd (show r.length≤18 by omega)
  refine ⟨fun hlt=>?_,fun hge=>?_⟩
  ·have hlt:k < r.length:=Int.ofNat_lt.1 (of_decide_eq_true hlt)
   simp only [byteAt_k]
   rw [digit_bif]
   have hst:=dv_step hlt
   refine ⟨by omega,fun _=>by omega,fun hc=>?_,fun hc=>?_⟩
   ·have hc:digitB (r.getD k 0)=false:=by simpa using hc
    have hal:r.all digitB=false:=all_at hlt hc
    rw [numV,numOK,numS_neg,if_neg hn,if_neg (by rw [hal];simp)];rfl
   ·have hc:digitB (r.getD k 0)=true:=by simpa using hc
    have hlt17:=dv_take17 hd (show k≤17 by omega)
    have hcd:=(digitB_iff _).1 hc
    refine ⟨by constructor<;>omega,by omega,by constructor<;>omega,by constructor<;>omega,by constructor<;>omega,_,by omega,k+1,?_,by omega,all_step hlt hd hc,rfl⟩
    rw [hst]
    congr 4
    omega
  ·have hge:k=r.length:=by have:=of_decide_eq_false hge;omega
   subst hge
   rw [List.take_length] at hd hlt18 ⊢
   rw [numV,numOK,numS_neg,if_neg hn,if_pos hd]
   exact ⟨by constructor<;>omega,by simp⟩
 ·have hne:t.head?≠some 45:=by
   cases t with
   | nil=>simp
   | cons c r =>
    have:byteAt (c :: r) 0=c:=rfl
    rw [this] at hpos
    simp at hpos
    simpa using hpos
  have hnum:numS t=if t.length=0∨18 < t.length∨(t.head?=some 48∧1 < t.length) then none else if t.all digitB then some (dv t:Int) else none:=by
   unfold numS
   simp only [decide_eq_false hne,cond_false]
   simp
  have hh:decide (byteAt t 0=48)=decide (t.head?=some 48)∨t=[]:=by
   cases t with
   | nil=>exact .inr rfl
   | cons x r=>left;congr 1;simp [byteAt]
  have hb:∀ b,(bif bif decide ((t.length:Int)=0) then true else decide ((18:Int) < t.length) then true else bif decide (byteAt t 0=48) then bif decide ((1:Int) < t.length) then true else false else false)=b→(b=true↔(t.length=0∨18 < t.length∨(t.head?=some 48∧1 < t.length))):=by
   intro b e
   subst e
   rcases hh with hh | rfl
   ·rw [hh]
    by_cases h0:t.length=0
    ·simp [h0]
    ·by_cases h18:18 < t.length
     ·have:(18:Int) < t.length:=by omega
      simp [h18,this]
     ·have h18':¬ (18:Int) < t.length:=by omega
      have h0':¬ (t.length:Int)=0:=by omega
      by_cases h48:t.head?=some 48
      ·by_cases h1:1 < t.length
       ·have h1':(1:Int) < t.length:=by omega
        simp [h0',h18',h48,h1,h1']
       ·have h1':¬ (1:Int) < t.length:=by omega
        simp only [decide_eq_true h48,decide_eq_false h0',decide_eq_false h18',decide_eq_false h1',cond_false,cond_true]
        simp only [Bool.false_eq_true,false_iff]
        rintro (h | h | ⟨_,h⟩)<;>omega
      ·simp only [decide_eq_false h48,decide_eq_false h0',decide_eq_false h18',cond_false]
       simp only [Bool.false_eq_true,false_iff]
       rintro (h | h | ⟨h,_⟩)
       ·exact h0 h
       ·exact h18 h
       ·exact h48 h
   ·simp
  refine ⟨fun h=>?_,fun h=>?_,fun h=>?_⟩
  ·by_cases h0:t.length=0
   ·simp [h0] at h
   ·omega
  ·have hn:=(hb _ h).1 rfl
   rw [numV,numOK,hnum,if_pos hn];rfl
  have hn:¬ (t.length=0∨18 < t.length∨(t.head?=some 48∧1 < t.length)):=fun e=>by have:=(hb _ h).2 e;cases this
  refine Run.loop [2,3,5,6] [0,4] [] rfl (fun n vs bs=>∃ k:Nat,vs=[.int .i64 0,.bool false,.int .i64 (dv (t.take k)),.int .i64 k]∧bs=[]∧k≤t.length∧(t.take k).all digitB=true∧n=t.length - k) t.length ?_ ?_
  ·simp only [push_cast,simprocAttr]
   exact ⟨0,by simp [dv],by omega,by simp,by omega⟩
  rintro n vs bs ⟨k,rfl,rfl,hk,hd,rfl⟩
  simp only [push_cast,simprocAttr]
  apply vc_run 1000 (stop:=false) rfl;simp only [push_cast,simprocAttr]
  have hlt18:=dv_take hd (show t.length≤18 by omega)
  refine ⟨fun hlt=>?_,fun hge=>?_⟩
  ·have hlt:k < t.length:=Int.ofNat_lt.1 (of_decide_eq_true hlt)
   simp only [byteAt_k]
   rw [digit_bif]
   have hst:=dv_step hlt
   refine ⟨by omega,fun _=>by omega,fun hc=>?_,fun hc=>?_⟩
   ·have hc:digitB (t.getD k 0)=false:=by simpa using hc
    have hal:t.all digitB=false:=all_at hlt hc
    rw [numV,numOK,hnum,if_neg hn,if_neg (by rw [hal];simp)];rfl
   ·have hc:digitB (t.getD k 0)=true:=by simpa using hc
    have hlt17:=dv_take17 hd (show k≤17 by omega)
    have hcd:=(digitB_iff _).1 hc
    refine ⟨by constructor<;>omega,by omega,by constructor<;>omega,by constructor<;>omega,by constructor<;>omega,_,by omega,k+1,?_,by omega,all_step hlt hd hc,rfl⟩
    rw [hst]
    congr 4
    omega
  ·have hge:k=t.length:=by have:=of_decide_eq_false hge;omega
   subst hge
   rw [List.take_length] at hd hlt18 ⊢
   rw [numV,numOK,hnum,if_neg hn,if_pos hd]
   exact ⟨by constructor<;>omega,by simp⟩)
end Go.Ab
