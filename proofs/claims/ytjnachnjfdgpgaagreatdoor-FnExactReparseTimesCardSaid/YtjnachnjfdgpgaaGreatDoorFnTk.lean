import Derived.Test.YtjnachnjfdgpgaaGreatDoorPlTok
import Derived.Test.YtjnachnjfdgpgaaGreatDoorLibNum
set_option linter.all false
set_option maxRecDepth 20000
set_option maxHeartbeats 1000000
namespace Go.Ab
open Go Go.Proofs.Tryz
open Go.Lib
theorem indexByte_idx (c:UInt8):∀ s:Str,indexByte s c=idx (s.findIdx? fun y=>decide (y=c))
 | []=>rfl
 | b :: l=>by
  rw [indexByte,List.findIdx?_cons,indexByte_idx c l]
  by_cases h:b=c
  ·subst h;simp [idx]
  ·simp only [beq_iff_eq,h,if_false,decide_false,Bool.false_eq_true]
   cases l.findIdx? fun y=>decide (y=c) with
   | none=>rfl
   | some k =>
    simp [idx]
    try omega
noncomputable def sp_idxB:Spec:=⟨[.sc,.sc],[.rd,.rd],true,fun
 | [.str s,.u8 c]=>some (none,.int .i64 (idx (s.findIdx? fun y=>decide (y=c))),[])
 | _=>none⟩
@[push_cast] theorem sp_idxB_s:sp_idxB.ps=[.sc,.sc]∧sp_idxB.modes=[.rd,.rd]∧sp_idxB.pure=true:=⟨rfl,rfl,rfl⟩
@[push_cast] theorem sp_idxB_run (s:Str) (c:UInt8):sp_idxB.run [.str s,.u8 c]=some (none,.int .i64 (idx (s.findIdx? fun y=>decide (y=c))),[]):=rfl
theorem c_idxB:CRow P0 ety0 202 sp_idxB:=by
 refine ⟨?_,ent_of func202 rfl rfl⟩
 intro args p r outs hrun hq w R vs F hrel hR hFR hFl hG
 simp only [sp_idxB] at hrun
 split at hrun<;>cases hrun
 rename_i s c
 obtain ⟨u,v,rfl,⟨_,h1⟩,⟨_,h2⟩⟩:=args2 hrel
 cases relA_str h1
 cases relA_u8 h2
 refine (Go.Proofs.Tryz.strings_IndexByte ⟨s.toArray⟩ (c.toNat:Nat) w).mono fun e w' h=>?_
 obtain ⟨he,rfl⟩:=h
 have e1:indexByte (⟨s.toArray⟩:ByteArray).data.toList ((c.toNat:Nat):Int).toNat.toUInt8=idx (s.findIdx? fun y=>decide (y=c)):=by
  rw [← indexByte_idx];simp
 rw [e1] at he
 exact fin_plain (P:=P0) rfl hR he (Go.RowKit.Below.refl _ _) fun X=>.int _ _
noncomputable def sp_idxS:Spec:=⟨[.sc,.sc],[.rd,.rd],true,fun
 | [.str s,.str w]=>some (some (s.length < 4294967281),.int .i64 (index s w),[])
 | _=>none⟩
@[push_cast] theorem sp_idxS_s:sp_idxS.ps=[.sc,.sc]∧sp_idxS.modes=[.rd,.rd]∧sp_idxS.pure=true:=⟨rfl,rfl,rfl⟩
@[push_cast] theorem sp_idxS_run (s w:Str):sp_idxS.run [.str s,.str w]=some (some (s.length < 4294967281),.int .i64 (index s w),[]):=rfl
theorem c_idxS:CRow P0 ety0 227 sp_idxS:=by
 refine ⟨?_,ent_of func227 rfl rfl⟩
 intro args p r outs hrun hq w R vs F hrel hR hFR hFl hG
 simp only [sp_idxS] at hrun
 split at hrun<;>cases hrun
 rename_i s q
 have hs:=hq _ rfl
 obtain ⟨u,v,rfl,⟨_,h1⟩,⟨_,h2⟩⟩:=args2 hrel
 cases relA_str h1
 cases relA_str h2
 obtain ⟨w0,hk0,hw0⟩:=hG
 obtain ⟨m,hm⟩:=Go.Proofs.Tryz.laysM143.s1_3 w0 hk0.1
 refine (Go.Proofs.Tryz.strings_Index ⟨s.toArray⟩ ⟨q.toArray⟩ m w (by rw [str_size];omega) (gi_cell hw0 hm)).mono fun e w' h=>?_
 obtain ⟨he,rfl⟩:=h
 exact fin_plain (P:=P0) rfl hR he (Go.RowKit.Below.refl _ _) fun X=>.int _ _
theorem idx_lt {α:Type} (l:List α) (p:α→Bool):decide (idx (l.findIdx? p) < 0)=!l.any p:=by
 rw [← idx_any]
 by_cases h:idx (l.findIdx? p) < 0
 ·rw [decide_eq_true h,decide_eq_false (by omega)];rfl
 ·rw [decide_eq_false h,decide_eq_true (by omega)];rfl
theorem any_has (l:Str) (c:UInt8):(l.any fun y=>decide (y=c))=l.contains c:=by
 rw [Bool.eq_iff_iff];simp
noncomputable def sp_isBlank:Spec:=⟨[.sc],[.rd],true,fun
 | [.u8 c]=>some (none,.bool (blankB c),[])
 | _=>none⟩
@[push_cast] theorem sp_isBlank_s:sp_isBlank.ps=[.sc]∧sp_isBlank.modes=[.rd]∧sp_isBlank.pure=true:=⟨rfl,rfl,rfl⟩
@[push_cast] theorem sp_isBlank_run (c:UInt8):sp_isBlank.run [.u8 c]=some (none,.bool (blankB c),[]):=rfl
noncomputable def e_isBlank:Env:=mk [(202,sp_idxB)] [] [] [] none
@[push_cast] theorem e_isBlank_e:MkE e_isBlank [(202,sp_idxB)] [] [] [] none:=⟨rfl,rfl,rfl,rfl,rfl,rfl,rfl⟩
theorem c_isBlank:CRow P0 ety0 194 sp_isBlank:=CRow.of (E:=e_isBlank) (mkOk (.cons c_idxB (.nil))) func194 rfl rfl rfl (by
 intro args p r outs h hq
 simp only [sp_isBlank] at h;split at h<;>cases h
 rename_i c
 refine Body.intro (rs:=[.tmp 2]) rfl rfl rfl ?_
 apply vc_run 1000 (stop:=false) rfl;simp only [push_cast,simprocAttr]
 rw [idx_any,any_has];rfl)
theorem blank_bif (c:UInt8):(bif bif bif bif decide (c=32) then true else decide (c=9) then true else decide (c=10) then true else decide (c=13) then true else decide (c=12))=blankB c:=by
 rw [Bool.eq_iff_iff]
 by_cases h13:c=13
 ·subst h13;decide
 ·by_cases h12:c=12
  ·subst h12;decide
  ·simp [blankB,blankL,h13,h12,or_assoc]
noncomputable def e_isBlank2:Env:=mk [] [] [] [] none
@[push_cast] theorem e_isBlank2_e:MkE e_isBlank2 [] [] [] [] none:=⟨rfl,rfl,rfl,rfl,rfl,rfl,rfl⟩
theorem c_isBlank2:CRow P0 ety0 185 sp_isBlank:=CRow.of (E:=e_isBlank2) (mkOk (.nil)) func185 rfl rfl rfl (by
 intro args p r outs h hq
 simp only [sp_isBlank] at h;split at h<;>cases h
 rename_i c
 refine Body.intro (rs:=[.tmp 2]) rfl rfl rfl ?_
 apply vc_run 1000 (stop:=false) rfl;simp only [push_cast,simprocAttr]
 rw [blank_bif])
theorem scan_bif {t:Str} {k:Nat} {b:Bool}:(bif decide ((k:Int) < (t.length:Nat)) then b else false)=true→k < t.length∧b=true:=by
 intro h
 by_cases hk:k < t.length
 ·rw [decide_eq_true (show (k:Int) < (t.length:Nat) by omega)] at h;exact ⟨hk,h⟩
 ·rw [decide_eq_false (show ¬ (k:Int) < (t.length:Nat) by omega)] at h;cases h
theorem scan_bif0 {t:Str} {k:Nat} {b:Bool}:(bif decide ((k:Int) < (t.length:Nat)) then b else false)=false→k < t.length→b=false:=by
 intro h hk
 rw [decide_eq_true (show (k:Int) < (t.length:Nat) by omega)] at h;exact h
theorem scan_more {p:UInt8→Bool} {t:Str} {a k:Nat} (hb:∀ j,a≤j→j < k→p (t.getD j 0)=false) (h:p (t.getD k 0)=false):∀ j,a≤j→j < k+1→p (t.getD j 0)=false:=fun j h1 h2=>by
 rcases Nat.lt_or_eq_of_le (Nat.le_of_lt_succ h2) with h' | rfl
 ·exact hb j h1 h'
 ·exact h
noncomputable def sp_upTo:Spec:=⟨[.sc,.sc,.sc],[.rd,.rd,.rd],true,fun
 | [.str t,.int .i64 i,.str w]=>some (some (0≤i∧i≤t.length∧t.length≤1073741824),.int .i64 (scanU (fun c=>w.contains c) t i.toNat:Nat),[])
 | _=>none⟩
@[push_cast] theorem sp_upTo_s:sp_upTo.ps=[.sc,.sc,.sc]∧sp_upTo.modes=[.rd,.rd,.rd]∧sp_upTo.pure=true:=⟨rfl,rfl,rfl⟩
@[push_cast] theorem sp_upTo_run (t w:Str) (i:Int):sp_upTo.run [.str t,.int .i64 i,.str w]=some (some (0≤i∧i≤t.length∧t.length≤1073741824),.int .i64 (scanU (fun c=>w.contains c) t i.toNat:Nat),[]):=rfl
noncomputable def e_upTo:Env:=mk [(202,sp_idxB)] [] [] [] none
@[push_cast] theorem e_upTo_e:MkE e_upTo [(202,sp_idxB)] [] [] [] none:=⟨rfl,rfl,rfl,rfl,rfl,rfl,rfl⟩
theorem c_upTo:CRow P0 ety0 132 sp_upTo:=CRow.of (E:=e_upTo) (mkOk (.cons c_idxB (.nil))) func132 rfl rfl rfl (by
 intro args p r outs h hq
 simp only [sp_upTo] at h;split at h<;>cases h
 rename_i t i w
 obtain ⟨h0,h1,hl⟩:=hq _ rfl
 obtain ⟨a,rfl⟩:∃ a:Nat,i=a:=⟨i.toNat,by omega⟩
 simp only [Int.toNat_natCast]
 refine Body.intro (rs:=[.tmp 6]) rfl rfl rfl ?_
 apply vc_run 1000 (stop:=false) rfl;simp only [push_cast,simprocAttr]
 refine Run.loop [1] [0,2] [] rfl (fun n vs bs=>∃ k:Nat,vs=[.int .i64 k]∧bs=[]∧a≤k∧k≤t.length∧(∀ j,a≤j→j < k→(fun c=>w.contains c) (t.getD j 0)=false)∧n=t.length - k) (t.length - a) ?_ ?_
 ·simp only [push_cast,simprocAttr]
  exact ⟨a,rfl,by omega,by omega,fun j h h'=>by omega,rfl⟩
 rintro n vs bs ⟨k,rfl,rfl,hak,hk,hb,rfl⟩
 simp only [push_cast,simprocAttr]
 apply vc_run 1000 (stop:=false) rfl;simp only [push_cast,simprocAttr]
 simp only [idx_lt,any_has,byteAt_k]
 refine ⟨fun h=>by have:=of_decide_eq_true h;omega,fun hy=>?_,fun hn=>?_⟩
 ·obtain ⟨hlt,hc⟩:=scan_bif hy
  exact ⟨by constructor<;>omega,_,by omega,k+1,rfl,by omega,by omega,scan_more hb (by simpa using hc),rfl⟩
 ·rw [scanU_at hak hk hb fun h=>by simpa using scan_bif0 hn h])
noncomputable def sp_past:Spec:=⟨[.sc,.sc,.sc],[.rd,.rd,.rd],true,fun
 | [.str t,.int .i64 i,.str w]=>some (some (0≤i∧i≤t.length∧t.length≤1073741824),.int .i64 (scanU (fun c=>!w.contains c) t i.toNat:Nat),[])
 | _=>none⟩
@[push_cast] theorem sp_past_s:sp_past.ps=[.sc,.sc,.sc]∧sp_past.modes=[.rd,.rd,.rd]∧sp_past.pure=true:=⟨rfl,rfl,rfl⟩
@[push_cast] theorem sp_past_run (t w:Str) (i:Int):sp_past.run [.str t,.int .i64 i,.str w]=some (some (0≤i∧i≤t.length∧t.length≤1073741824),.int .i64 (scanU (fun c=>!w.contains c) t i.toNat:Nat),[]):=rfl
noncomputable def e_past:Env:=mk [(202,sp_idxB)] [] [] [] none
@[push_cast] theorem e_past_e:MkE e_past [(202,sp_idxB)] [] [] [] none:=⟨rfl,rfl,rfl,rfl,rfl,rfl,rfl⟩
theorem c_past:CRow P0 ety0 196 sp_past:=CRow.of (E:=e_past) (mkOk (.cons c_idxB (.nil))) func196 rfl rfl rfl (by
 intro args p r outs h hq
 simp only [sp_past] at h;split at h<;>cases h
 rename_i t i w
 obtain ⟨h0,h1,hl⟩:=hq _ rfl
 obtain ⟨a,rfl⟩:∃ a:Nat,i=a:=⟨i.toNat,by omega⟩
 simp only [Int.toNat_natCast]
 refine Body.intro (rs:=[.tmp 6]) rfl rfl rfl ?_
 apply vc_run 1000 (stop:=false) rfl;simp only [push_cast,simprocAttr]
 refine Run.loop [1] [0,2] [] rfl (fun n vs bs=>∃ k:Nat,vs=[.int .i64 k]∧bs=[]∧a≤k∧k≤t.length∧(∀ j,a≤j→j < k→(fun c=>!w.contains c) (t.getD j 0)=false)∧n=t.length - k) (t.length - a) ?_ ?_
 ·simp only [push_cast,simprocAttr]
  exact ⟨a,rfl,by omega,by omega,fun j h h'=>by omega,rfl⟩
 rintro n vs bs ⟨k,rfl,rfl,hak,hk,hb,rfl⟩
 simp only [push_cast,simprocAttr]
 apply vc_run 1000 (stop:=false) rfl;simp only [push_cast,simprocAttr]
 simp only [idx_any,any_has,byteAt_k]
 refine ⟨fun h=>by have:=of_decide_eq_true h;omega,fun hy=>?_,fun hn=>?_⟩
 ·obtain ⟨hlt,hc⟩:=scan_bif hy
  exact ⟨by constructor<;>omega,_,by omega,k+1,rfl,by omega,by omega,scan_more (p:=fun c=>!w.contains c) hb (by simpa using hc),rfl⟩
 ·rw [scanU_at hak hk hb fun h=>by simpa using scan_bif0 hn h])
noncomputable def sp_endOf:Spec:=⟨[.sc,.sc,.sc],[.rd,.rd,.rd],true,fun
 | [.str t,.int .i64 i,.str w]=>some (some (0≤i∧w≠[]∧t.length≤1073741824),.tup [.int .i64 ((endT t i.toNat w).1:Nat),.int .i64 ((endT t i.toNat w).2:Nat)],[])
 | _=>none⟩
@[push_cast] theorem sp_endOf_s:sp_endOf.ps=[.sc,.sc,.sc]∧sp_endOf.modes=[.rd,.rd,.rd]∧sp_endOf.pure=true:=⟨rfl,rfl,rfl⟩
@[push_cast] theorem sp_endOf_run (t w:Str) (i:Int):sp_endOf.run [.str t,.int .i64 i,.str w]=some (some (0≤i∧w≠[]∧t.length≤1073741824),.tup [.int .i64 ((endT t i.toNat w).1:Nat),.int .i64 ((endT t i.toNat w).2:Nat)],[]):=rfl
theorem findS_out {t w:Str} {i:Nat} (h:t.length≤i):findS t w i=none:=firstP_none fun j h1 h2=>by omega
noncomputable def e_endOf:Env:=mk [(227,sp_idxS)] [] [] [] none
@[push_cast] theorem e_endOf_e:MkE e_endOf [(227,sp_idxS)] [] [] [] none:=⟨rfl,rfl,rfl,rfl,rfl,rfl,rfl⟩
theorem c_endOf:CRow P0 ety0 200 sp_endOf:=CRow.of (E:=e_endOf) (mkOk (.cons c_idxS (.nil))) func200 rfl rfl rfl (by
 intro args p r outs h hq
 simp only [sp_endOf] at h;split at h<;>cases h
 rename_i t i w
 obtain ⟨h0,hw,hl⟩:=hq _ rfl
 obtain ⟨a,rfl⟩:∃ a:Nat,i=a:=⟨i.toNat,by omega⟩
 simp only [Int.toNat_natCast]
 refine Body.intro (rs:=[.tmp 6,.tmp 7]) rfl rfl rfl ?_
 apply vc_run 1000 (stop:=false) rfl;simp only [push_cast,simprocAttr]
 refine ⟨fun h=>?_,fun h=>?_⟩
 ·have h:t.length < a:=by have:=of_decide_eq_true h;omega
  rw [endT,findS_out (by omega)]
 ·have h:a≤t.length:=by have:=of_decide_eq_false h;omega
  have ec:cut t (a:Int) (t.length:Nat)=t.drop a:=by simp [cut]
  rw [ec,index_find h hw]
  unfold endT
  cases hf:findS t w a with
  | none =>
   refine ⟨by omega,by rw [List.length_drop];omega,fun _=>rfl,fun h=>?_⟩
   simp at h
  | some k =>
   obtain ⟨k1,k2,k3⟩:=firstP_some hf
   have k4:=occS_room k3 hw
   simp only
   refine ⟨by omega,by rw [List.length_drop];omega,fun h=>?_,fun _=>?_⟩
   ·have:=of_decide_eq_true h;omega
   ·have e1:(a:Int)+((k:Int) - a)=k:=by omega
    simp only [e1]
    exact ⟨by constructor<;>omega,by constructor<;>omega,by constructor<;>omega,rfl⟩)
noncomputable def e_lowS2:Env:=mk [] [] [] [] none
@[push_cast] theorem e_lowS2_e:MkE e_lowS2 [] [] [] [] none:=⟨rfl,rfl,rfl,rfl,rfl,rfl,rfl⟩
theorem c_lowS2:CRow P0 ety0 184 sp_lowS:=CRow.of (E:=e_lowS2) (mkOk (.nil)) func184 rfl rfl rfl (by
 intro args p r outs h hq
 simp only [sp_lowS] at h;split at h<;>cases h
 rename_i t
 have hz:=hq _ rfl
 refine Body.intro (rs:=[.tmp 2]) rfl rfl rfl ?_
 apply vc_run 1000 (stop:=false) rfl;simp only [push_cast,simprocAttr]
 refine Run.loop [3,4] [0] [] rfl (fun n vs bs=>∃ k:Nat,vs=[.own true ⟨.u8,lowS (t.take k)⟩,.int .i64 k]∧bs=[]∧k≤t.length∧n=t.length - k) t.length ?_ ?_
 ·simp only [push_cast,simprocAttr]
  exact ⟨0,rfl,by omega,by omega⟩
 rintro n vs bs ⟨k,rfl,rfl,hk,rfl⟩
 simp only [push_cast,simprocAttr]
 apply vc_run 1000 (stop:=false) rfl;simp only [push_cast,simprocAttr]
 have hll:(lowS (t.take k)).length=k:=by unfold lowS;rw [List.length_map,List.length_take];omega
 rw [hll]
 refine ⟨fun hlt=>?_,fun hge=>?_⟩
 ·have hlt:k < t.length:=Int.ofNat_lt.1 (of_decide_eq_true hlt)
  have e:t.getD k 0=t[k]:=by simp [List.getD,hlt]
  have hst:lowS (t.take (k+1))=lowS (t.take k)++[lowB (t.getD k 0)]:=by
   unfold lowS;rw [List.take_succ_eq_append_getElem hlt,List.map_append,e];rfl
  simp only [byteAt_k]
  refine ⟨by omega,fun hy=>⟨by unfold sizeOk;omega,by constructor<;>omega,_,by omega,k+1,?_,by omega,rfl⟩,fun hn=>⟨by unfold sizeOk;omega,by constructor<;>omega,_,by omega,k+1,?_,by omega,rfl⟩⟩
  ·rw [hst,lowB,rngB,hy];rfl
  ·rw [hst,lowB,rngB,hn];rfl
 ·have hge:k=t.length:=by have:=of_decide_eq_false hge;omega
  subst hge
  rw [List.take_length])
theorem cutN (t:Str) (a b:Nat):cut t (a:Int) (b:Int)=sliceS t a b:=by simp [cut,sliceS]
theorem rawEnd_hit {t raw:Str} {a k:Nat} (hak:a≤k) (hb:∀ j,a≤j→j < k→rawP t raw j=false) (hk:k+2+raw.length < t.length) (h:rawP t raw k=true):rawEndS t a raw=k:=by
 unfold rawEndS;rw [firstP_at hak (by omega) hb h];rfl
theorem rawEnd_miss {t raw:Str} {a k:Nat} (hb:∀ j,a≤j→j < k→rawP t raw j=false) (hk:t.length≤k+2+raw.length):rawEndS t a raw=t.length:=by
 unfold rawEndS;rw [firstP_none fun j h1 h2=>hb j h1 (by omega)];rfl
theorem more_no {q:Nat→Bool} {a k:Nat} (hb:∀ j,a≤j→j < k→q j=false) (h:q k=false):∀ j,a≤j→j < k+1→q j=false:=fun j h1 h2=>by
 rcases Nat.lt_or_eq_of_le (Nat.le_of_lt_succ h2) with h' | rfl
 ·exact hb j h1 h'
 ·exact h
noncomputable def sp_rawEnd:Spec:=⟨[.sc,.sc,.sc],[.rd,.rd,.rd],true,fun
 | [.str t,.int .i64 i,.str raw]=>some (some (0≤i∧raw.length≤1073741824∧i≤t.length∧t.length≤1073741824),.int .i64 (rawEndS t i.toNat raw:Nat),[])
 | _=>none⟩
@[push_cast] theorem sp_rawEnd_s:sp_rawEnd.ps=[.sc,.sc,.sc]∧sp_rawEnd.modes=[.rd,.rd,.rd]∧sp_rawEnd.pure=true:=⟨rfl,rfl,rfl⟩
@[push_cast] theorem sp_rawEnd_run (t raw:Str) (i:Int):sp_rawEnd.run [.str t,.int .i64 i,.str raw]=some (some (0≤i∧raw.length≤1073741824∧i≤t.length∧t.length≤1073741824),.int .i64 (rawEndS t i.toNat raw:Nat),[]):=rfl
noncomputable def e_rawEnd:Env:=mk [(193,sp_lowS),(194,sp_isBlank)] [] [] [] none
@[push_cast] theorem e_rawEnd_e:MkE e_rawEnd [(193,sp_lowS),(194,sp_isBlank)] [] [] [] none:=⟨rfl,rfl,rfl,rfl,rfl,rfl,rfl⟩
theorem c_rawEnd:CRow P0 ety0 126 sp_rawEnd:=CRow.of (E:=e_rawEnd) (mkOk (.cons c_lowS (.cons c_isBlank (.nil)))) func126 rfl rfl rfl (by
 intro args p r outs h hq
 simp only [sp_rawEnd] at h;split at h<;>cases h
 rename_i t i raw
 obtain ⟨h0,hr,hia,hl⟩:=hq _ rfl
 obtain ⟨a,rfl⟩:∃ a:Nat,i=a:=⟨i.toNat,by omega⟩
 simp only [Int.toNat_natCast]
 refine Body.intro (rs:=[.tmp 6]) rfl rfl rfl ?_
 apply vc_run 1000 (stop:=false) rfl;simp only [push_cast,simprocAttr]
 refine Run.loop [6,7] [0,2] [] rfl (fun n vs bs=>∃ k:Nat,vs=[.int .i64 0,.int .i64 k]∧bs=[]∧a≤k∧(∀ j,a≤j→j < k→rawP t raw j=false)∧n=t.length+a - k∧(k=a∨k≤t.length)) t.length ?_ ?_
 ·simp only [push_cast,simprocAttr]
  exact ⟨a,rfl,by omega,fun j h h'=>by omega,by omega,.inl rfl⟩
 rintro n vs bs ⟨k,rfl,rfl,hak,hb,rfl,hkl⟩
 simp only [push_cast,simprocAttr]
 apply vc_run 1000 (stop:=false) rfl;simp only [push_cast,simprocAttr]
 have c1:(k:Int)+2=((k+2:Nat):Int):=by omega
 have c2:((k+2:Nat):Int)+(raw.length:Int)=((k+2+raw.length:Nat):Int):=by omega
 have c3:(k:Int)+1=((k+1:Nat):Int):=by omega
 simp only [c1,c2,c3,byteAt_k,cutN]
 refine ⟨by constructor<;>omega,by constructor<;>omega,fun h=>?_,fun h=>?_⟩
 ·have hlt:k+2+raw.length < t.length:=by have:=of_decide_eq_true h;omega
  have hsl:(sliceS t (k+2) (k+2+raw.length)).length≤1073741824:=by unfold sliceS;rw [List.length_drop,List.length_take];omega
  have e:(bif bif bif decide (t.getD k 0=60) then decide (t.getD (k+1) 0=47) else false then decide (lowS (sliceS t (k+2) (k+2+raw.length))=raw) else false then bif bif blankB (t.getD (k+2+raw.length) 0) then true else decide (t.getD (k+2+raw.length) 0=47) then true else decide (t.getD (k+2+raw.length) 0=62) else false)=rawP t raw k:=by
   unfold rawP
   cases decide (t.getD k 0=60)<;>cases decide (t.getD (k+1) 0=47)<;>cases decide (lowS (sliceS t (k+2) (k+2+raw.length))=raw)<;>cases blankB (t.getD (k+2+raw.length) 0)<;>cases decide (t.getD (k+2+raw.length) 0=47)<;>rfl
  rw [e]
  refine ⟨by constructor<;>omega,by constructor<;>omega,by omega,by omega,fun _=>by constructor<;>omega,fun _=>by omega,fun _=>by constructor<;>omega,fun _=>by constructor<;>omega,fun _=>by constructor<;>omega,fun _=>by omega,fun _=>hsl,fun hy=>?_,fun hn=>?_⟩
  ·rw [rawEnd_hit hak hb hlt hy]
  ·exact ⟨by constructor<;>omega,_,by omega,k+1,rfl,by omega,more_no hb hn,rfl,by omega⟩
 ·have hge:t.length≤k+2+raw.length:=by have:=of_decide_eq_false h;omega
  rw [rawEnd_miss hb hge])
noncomputable def e_rawEnd2:Env:=mk [(184,sp_lowS),(185,sp_isBlank)] [] [] [] none
@[push_cast] theorem e_rawEnd2_e:MkE e_rawEnd2 [(184,sp_lowS),(185,sp_isBlank)] [] [] [] none:=⟨rfl,rfl,rfl,rfl,rfl,rfl,rfl⟩
theorem c_rawEnd2:CRow P0 ety0 114 sp_rawEnd:=CRow.of (E:=e_rawEnd2) (mkOk (.cons c_lowS2 (.cons c_isBlank2 (.nil)))) func114 rfl rfl rfl (by
 intro args p r outs h hq
 simp only [sp_rawEnd] at h;split at h<;>cases h
 rename_i t i raw
 obtain ⟨h0,hr,hia,hl⟩:=hq _ rfl
 obtain ⟨a,rfl⟩:∃ a:Nat,i=a:=⟨i.toNat,by omega⟩
 simp only [Int.toNat_natCast]
 refine Body.intro (rs:=[.tmp 6]) rfl rfl rfl ?_
 apply vc_run 1000 (stop:=false) rfl;simp only [push_cast,simprocAttr]
 refine Run.loop [6,7] [0,2] [] rfl (fun n vs bs=>∃ k:Nat,vs=[.int .i64 0,.int .i64 k]∧bs=[]∧a≤k∧(∀ j,a≤j→j < k→rawP t raw j=false)∧n=t.length+a - k∧(k=a∨k≤t.length)) t.length ?_ ?_
 ·simp only [push_cast,simprocAttr]
  exact ⟨a,rfl,by omega,fun j h h'=>by omega,by omega,.inl rfl⟩
 rintro n vs bs ⟨k,rfl,rfl,hak,hb,rfl,hkl⟩
 simp only [push_cast,simprocAttr]
 apply vc_run 1000 (stop:=false) rfl;simp only [push_cast,simprocAttr]
 have c1:(k:Int)+2=((k+2:Nat):Int):=by omega
 have c2:((k+2:Nat):Int)+(raw.length:Int)=((k+2+raw.length:Nat):Int):=by omega
 have c3:(k:Int)+1=((k+1:Nat):Int):=by omega
 simp only [c1,c2,c3,byteAt_k,cutN]
 refine ⟨by constructor<;>omega,by constructor<;>omega,fun h=>?_,fun h=>?_⟩
 ·have hlt:k+2+raw.length < t.length:=by have:=of_decide_eq_true h;omega
  have hsl:(sliceS t (k+2) (k+2+raw.length)).length≤1073741824:=by unfold sliceS;rw [List.length_drop,List.length_take];omega
  refine ⟨by omega,fun _=>by constructor<;>omega,fun _=>by omega,fun _=>by constructor<;>omega,fun _=>by constructor<;>omega,fun _=>by constructor<;>omega,fun _=>by omega,fun _=>hsl,fun hy=>⟨by constructor<;>omega,by constructor<;>omega,by omega,fun hy2=>?_,fun hn2=>?_⟩,fun hn=>?_⟩
  ·have:rawP t raw k=true:=by
    unfold rawP
    revert hy hy2
    cases decide (t.getD k 0=60)<;>cases decide (t.getD (k+1) 0=47)<;>cases decide (lowS (sliceS t (k+2) (k+2+raw.length))=raw)<;>cases blankB (t.getD (k+2+raw.length) 0)<;>cases decide (t.getD (k+2+raw.length) 0=47)<;>simp
   rw [rawEnd_hit hak hb hlt this]
  ·have:rawP t raw k=false:=by
    unfold rawP
    revert hn2
    cases blankB (t.getD (k+2+raw.length) 0)<;>cases decide (t.getD (k+2+raw.length) 0=47)<;>cases decide (t.getD (k+2+raw.length) 0=62)<;>simp
   exact ⟨by constructor<;>omega,_,by omega,k+1,rfl,by omega,more_no hb this,rfl,by omega⟩
  ·have:rawP t raw k=false:=by
    unfold rawP
    revert hn
    cases decide (t.getD k 0=60)<;>cases decide (t.getD (k+1) 0=47)<;>cases decide (lowS (sliceS t (k+2) (k+2+raw.length))=raw)<;>simp
   exact ⟨by constructor<;>omega,_,by omega,k+1,rfl,by omega,more_no hb this,rfl,by omega⟩
 ·have hge:t.length≤k+2+raw.length:=by have:=of_decide_eq_false h;omega
  rw [rawEnd_miss hb hge])
noncomputable def sp_find:Spec:=⟨[.sc,.sc,.sc],[.rd,.rd,.rd],true,fun
 | [.str t,.str w,.int .i64 i]=>some (some (0≤i∧w≠[]∧w.length≤1073741824∧i≤1073741824∧t.length≤1073741824),.tup [.int .i64 ((findS t w i.toNat).getD t.length:Nat),.bool (findS t w i.toNat).isSome],[])
 | _=>none⟩
@[push_cast] theorem sp_find_s:sp_find.ps=[.sc,.sc,.sc]∧sp_find.modes=[.rd,.rd,.rd]∧sp_find.pure=true:=⟨rfl,rfl,rfl⟩
@[push_cast] theorem sp_find_run (t w:Str) (i:Int):sp_find.run [.str t,.str w,.int .i64 i]=some (some (0≤i∧w≠[]∧w.length≤1073741824∧i≤1073741824∧t.length≤1073741824),.tup [.int .i64 ((findS t w i.toNat).getD t.length:Nat),.bool (findS t w i.toNat).isSome],[]):=rfl
noncomputable def e_find:Env:=mk [] [] [] [] none
@[push_cast] theorem e_find_e:MkE e_find [] [] [] [] none:=⟨rfl,rfl,rfl,rfl,rfl,rfl,rfl⟩
theorem c_find:CRow P0 ety0 190 sp_find:=CRow.of (E:=e_find) (mkOk (.nil)) func190 rfl rfl rfl (by
 intro args p r outs h hq
 simp only [sp_find] at h;split at h<;>cases h
 rename_i t w i
 obtain ⟨h0,hw,hwl,hi,hl⟩:=hq _ rfl
 obtain ⟨a,rfl⟩:∃ a:Nat,i=a:=⟨i.toNat,by omega⟩
 simp only [Int.toNat_natCast]
 refine Body.intro (rs:=[.tmp 6,.tmp 7]) rfl rfl rfl ?_
 apply vc_run 1000 (stop:=false) rfl;simp only [push_cast,simprocAttr]
 refine Run.loop [6,7,8] [0,1] [] rfl (fun n vs bs=>∃ k:Nat,vs=[.int .i64 0,.bool false,.int .i64 k]∧bs=[]∧a≤k∧(k=a∨k≤t.length)∧(∀ j,a≤j→j < k→occS t w j=false)∧n=t.length+a - k) t.length ?_ ?_
 ·simp only [push_cast,simprocAttr]
  exact ⟨a,rfl,by omega,.inl rfl,fun j h h'=>by omega,by omega⟩
 rintro n vs bs ⟨k,rfl,rfl,hak,hkl,hb,rfl⟩
 simp only [push_cast,simprocAttr]
 apply vc_run 1000 (stop:=false) rfl;simp only [push_cast,simprocAttr]
 have c2:(k:Int)+(w.length:Int)=((k+w.length:Nat):Int):=by omega
 simp only [c2,cutN]
 have hocc:k+w.length≤t.length→(sliceS t k (k+w.length)=w↔occS t w k=true):=fun h=>by
  unfold sliceS occS
  rw [decide_eq_true_iff,List.drop_take,show k+w.length - k=w.length by omega]
 have hp:=List.length_pos_iff.2 hw
 refine ⟨by constructor<;>omega,fun h=>?_,fun h=>?_⟩
 ·have h:k+w.length≤t.length:=by have:=of_decide_eq_true h;omega
  refine ⟨by constructor<;>omega,by omega,fun hy=>?_,fun hn=>?_⟩
  ·have:=(hocc h).1 (of_decide_eq_true hy)
   rw [findS,firstP_at hak (by omega) hb this];rfl
  ·have:occS t w k=false:=by
    cases hc:occS t w k with
    | false=>rfl
    | true=>exact absurd ((hocc h).2 hc) (of_decide_eq_false hn)
   exact ⟨by constructor<;>omega,_,by omega,k+1,rfl,by omega,by omega,more_no hb this,rfl⟩
 ·have h:¬ k+w.length≤t.length:=by have:=of_decide_eq_false h;omega
  have:findS t w a=none:=firstP_none fun j h1 h2=>by
   rcases Nat.lt_or_ge j k with h' | h'
   ·exact hb j h1 h'
   ·cases hc:occS t w j with
    | false=>rfl
    | true=>have:=(occS_room hc hw).1;omega
  rw [this];rfl)
noncomputable def sp_l04Name:Spec:=⟨[.sc,.sc],[.rd,.rd],true,fun
 | [.str t,.int .i64 i]=>some (some (0≤i∧i≤t.length∧t.length≤1073741824),.tup [.str (lowS (sliceS t i.toNat (scanU tagStop t i.toNat))),.int .i64 (scanU tagStop t i.toNat:Nat)],[])
 | _=>none⟩
@[push_cast] theorem sp_l04Name_s:sp_l04Name.ps=[.sc,.sc]∧sp_l04Name.modes=[.rd,.rd]∧sp_l04Name.pure=true:=⟨rfl,rfl,rfl⟩
@[push_cast] theorem sp_l04Name_run (t:Str) (i:Int):sp_l04Name.run [.str t,.int .i64 i]=some (some (0≤i∧i≤t.length∧t.length≤1073741824),.tup [.str (lowS (sliceS t i.toNat (scanU tagStop t i.toNat))),.int .i64 (scanU tagStop t i.toNat:Nat)],[]):=rfl
noncomputable def e_l04Name:Env:=mk [(185,sp_isBlank),(184,sp_lowS)] [] [] [] none
@[push_cast] theorem e_l04Name_e:MkE e_l04Name [(185,sp_isBlank),(184,sp_lowS)] [] [] [] none:=⟨rfl,rfl,rfl,rfl,rfl,rfl,rfl⟩
theorem c_l04Name:CRow P0 ety0 187 sp_l04Name:=CRow.of (E:=e_l04Name) (mkOk (.cons c_isBlank2 (.cons c_lowS2 (.nil)))) func187 rfl rfl rfl (by
 intro args p r outs h hq
 simp only [sp_l04Name] at h;split at h<;>cases h
 rename_i t i
 obtain ⟨h0,h1,hl⟩:=hq _ rfl
 obtain ⟨a,rfl⟩:∃ a:Nat,i=a:=⟨i.toNat,by omega⟩
 simp only [Int.toNat_natCast]
 refine Body.intro (rs:=[.tmp 4,.tmp 5]) rfl rfl rfl ?_
 apply vc_run 1000 (stop:=false) rfl;simp only [push_cast,simprocAttr]
 refine Run.loop [6] [0,1] [] rfl (fun n vs bs=>∃ k:Nat,vs=[.int .i64 k]∧bs=[]∧a≤k∧k≤t.length∧(∀ j,a≤j→j < k→tagStop (t.getD j 0)=false)∧n=t.length - k) (t.length - a) ?_ ?_
 ·simp only [push_cast,simprocAttr]
  exact ⟨a,rfl,by omega,by omega,fun j h h'=>by omega,rfl⟩
 rintro n vs bs ⟨k,rfl,rfl,hak,hk,hb,rfl⟩
 simp only [push_cast,simprocAttr]
 apply vc_run 1000 (stop:=false) rfl;simp only [push_cast,simprocAttr]
 simp only [byteAt_k,cutN]
 have e:(bif bif bif decide ((k:Int) < (t.length:Nat)) then !blankB (t.getD k 0) else false then !decide (t.getD k 0=47) else false then !decide (t.getD k 0=62) else false)=(bif decide ((k:Int) < (t.length:Nat)) then !tagStop (t.getD k 0) else false):=by
  unfold tagStop
  cases decide ((k:Int) < (t.length:Nat))<;>cases blankB (t.getD k 0)<;>cases decide (t.getD k 0=47)<;>cases decide (t.getD k 0=62)<;>rfl
 rw [e]
 refine ⟨fun h=>by have:=of_decide_eq_true h;omega,fun h=>by have:=(scan_bif h).1;omega,fun h=>?_,fun hy=>?_,fun hn=>?_⟩
 ·have:k < t.length:=by
   by_cases hk:k < t.length
   ·exact hk
   ·rw [decide_eq_false (show ¬ (k:Int) < (t.length:Nat) by omega)] at h;cases h
  omega
 ·obtain ⟨hlt,hc⟩:=scan_bif hy
  exact ⟨by constructor<;>omega,_,by omega,k+1,rfl,by omega,by omega,scan_more hb (by simpa using hc),rfl⟩
 ·rw [scanU_at hak hk hb fun h=>by simpa using scan_bif0 hn h]
  have hsl:(sliceS t a k).length≤1073741824:=by unfold sliceS;rw [List.length_drop,List.length_take];omega
  exact ⟨by omega,hsl,rfl⟩)
end Go.Ab
