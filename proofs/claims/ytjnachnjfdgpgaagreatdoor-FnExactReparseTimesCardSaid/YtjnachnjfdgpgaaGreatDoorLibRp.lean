import Derived.Test.YtjnachnjfdgpgaaGreatDoorLibRe
import Derived.Test.YtjnachnjfdgpgaaGreatDoorPlEs
import Derived.Deep.QuietTactic
import Derived.BigQuiet
import Derived.Deep.LoopGhost
import Derived.Deep.DeepCutAuto
import Derived.Deep.CutRange
import Derived.Deep.RegionLaw
import Derived.WalkMore
import Derived.Laws.CopyOwn
import Derived.Laws.MakeOwn
import Derived.Laws.OwnMore
import Derived.Lib.Bytealg
import Derived.Lib.LazyBuf
import Derived.Lib.BufferWrite
import Derived.Test.YtjnachnjfdgpgaaGreatDoorShelf
set_option linter.all false
set_option maxRecDepth 20000
set_option maxHeartbeats 1000000
namespace Go.Ab
open Go Go.Proofs.Tryz
open Go.RowKit Go.Shelf
def repB (c:UInt8):Option Str:=repK 3 c.toNat
theorem repB_eq (c:UInt8):repB c=if c=62 then some [38,103,116,59] else if c=60 then some [38,108,116,59] else if c=38 then some [38,97,109,112,59] else none:=by
 have e:∀ n:UInt8,(c.toNat=n.toNat)=(c=n):=fun n=>propext ⟨fun h=>UInt8.toNat_inj.1 h,fun h=>by rw [h]⟩
 have e1:=e 62
 have e2:=e 60
 have e3:=e 38
 unfold repB repK
 simp only [show ((62:UInt8).toNat)=62 from rfl,show ((60:UInt8).toNat)=60 from rfl,show ((38:UInt8).toNat)=38 from rfl] at e1 e2 e3
 simp [e1,e2,e3]
theorem escC_rep (c:UInt8):escC c=(repB c).getD [c]:=by
 rw [repB_eq];unfold escC
 by_cases h1:c=62
 ·subst h1;rfl
 ·by_cases h2:c=60
  ·subst h2;rfl
  ·by_cases h3:c=38
   ·subst h3;rfl
   ·simp [h1,h2,h3]
def gE (c:UInt8):Nat:=match repB c with | some n=>n.length - 1 | none=>0
def cntE:Str→Nat
 | []=>0
 | c :: r=>gE c+cntE r
theorem repB_pos {c:UInt8} {n:Str} (h:repB c=some n):1 < n.length:=by
 rw [repB_eq] at h
 repeat' split at h
 all_goals cases h<;>decide
theorem repB_le {c:UInt8} {n:Str} (h:repB c=some n):n.length≤5:=by
 rw [repB_eq] at h
 repeat' split at h
 all_goals cases h<;>decide
theorem gE_le (c:UInt8):gE c≤4:=by
 unfold gE
 cases h:repB c with
 | none=>exact Nat.zero_le _
 | some n=>have:=repB_le h;simp;omega
theorem cntE_le:∀ t:Str,cntE t≤4 * t.length
 | []=>Nat.zero_le _
 | c :: r=>by
  have h1:=gE_le c
  have h2:=cntE_le r
  rw [cntE,List.length_cons];omega
theorem escT_lenE:∀ t:Str,(escT t).length=t.length+cntE t
 | []=>rfl
 | c :: r=>by
  have ih:=escT_lenE r
  unfold escT at ih ⊢
  rw [List.flatMap_cons,List.length_append,ih,escC_rep,cntE,List.length_cons]
  unfold gE
  cases h:repB c with
  | none=>simp;omega
  | some n=>have:=repB_pos h;simp;omega
theorem cntE_app:∀ a b:Str,cntE (a++b)=cntE a+cntE b
 | [],b=>by simp [cntE]
 | c :: a,b=>by rw [List.cons_append,cntE,cntE,cntE_app a b];omega
theorem cntE_take {t:Str} {i:Nat} (h:i < t.length):cntE (t.take (i+1))=cntE (t.take i)+gE (t.getD i 0):=by
 rw [List.take_succ_eq_append_getElem h,cntE_app]
 simp [cntE,List.getD,h]
theorem escT_same:∀ t:Str,cntE t=0→escT t=t
 | [],_=>rfl
 | c :: r,h=>by
  rw [cntE] at h
  have hc:repB c=none:=by
   cases hr:repB c with
   | none=>rfl
   | some n=>have:=repB_pos hr;unfold gE at h;rw [hr] at h;simp at h;omega
  have ih:=escT_same r (by omega)
  unfold escT at ih ⊢
  rw [List.flatMap_cons,ih,escC_rep,hc];rfl
def cK (k:Nat) (t:Str):Nat:=(if 1≤k then 3 * t.count 62 else 0)+(if 2≤k then 3 * t.count 60 else 0)+(if 3≤k then 4 * t.count 38 else 0)
theorem cK_all:∀ t:Str,cK 3 t=cntE t
 | []=>rfl
 | c :: r=>by
  have ih:=cK_all r
  unfold cK at ih ⊢
  rw [cntE,← ih]
  unfold gE
  rw [repB_eq]
  simp only [List.count_cons]
  by_cases h1:c=62
  ·subst h1;simp;omega
  ·by_cases h2:c=60
   ·subst h2;simp;omega
   ·by_cases h3:c=38
    ·subst h3;simp;omega
    ·simp [h1,h2,h3]
structure TabAt (tb kb kcap:Nat) (C:Array Value) (w:World):Prop where
 blk:w.heap[tb]?=some (.cells C 240 (0,0))
 key:C[256]?=some (.slice (some ⟨kb,0,none⟩) 3 kcap)
 keys:∀ j s,keysR[j]?=some s→w.cell? ⟨kb,j,none⟩=some (sv s)
 rep:∀ c:UInt8,match repB c with
  | none=>C[c.toNat]?=some (.slice none 0 0)
  | some n=>∃ g cap,C[c.toNat]?=some (.slice (some ⟨g,0,none⟩) n.length cap)∧∀ (j:Nat) (b:UInt8),n[j]?=some b→w.cell? ⟨g,j,none⟩=some (.int .u8 (b.toNat:Nat))
theorem TabAt.below {tb kb kcap:Nat} {C:Array Value} {w w':World} (h:TabAt tb kb kcap C w) (k:Below w.heap.size w w'):TabAt tb kb kcap C w':=by
 have cl:∀ {a:Addr} {v:Value},w.cell? a=some v→w'.cell? a=some v:=fun {a v} hv=>(k.cell (p:=a) (World.block_lt_of_cell? _ _ hv)).trans hv
 refine ⟨(k.block _ (Array.getElem?_eq_some_iff.1 h.blk).1).trans h.blk,h.key,fun j s hj=>cl (h.keys j s hj),fun c=>?_⟩
 have hr:=h.rep c
 split at hr
 ·exact hr
 ·obtain ⟨g,cap,h1,h2⟩:=hr
  exact ⟨g,cap,h1,fun j b hj=>cl (h2 j b hj)⟩
theorem ba1 (c:UInt8) (h:0 < (⟨#[c]⟩:ByteArray).size):((⟨#[c]⟩:ByteArray)[0]'h).toNat=c.toNat:=rfl
theorem key_step (t:Str) {i:Nat} (hi:i < 3):∃ (c:UInt8) (n:Str),keysR[i]?=some [c]∧repB c=some n∧cK (i+1) t=cK i t+t.count c * (n.length - 1)∧(n.length=4∨n.length=5):=by
 rcases i with _ | _ | _ | i
 ·exact ⟨62,[38,103,116,59],rfl,rfl,by simp [cK];omega,by decide⟩
 ·exact ⟨60,[38,108,116,59],rfl,rfl,by simp [cK];omega,by decide⟩
 ·exact ⟨38,[38,97,109,112,59],rfl,rfl,by simp [cK];omega,by decide⟩
 ·omega
theorem infoU8:(prog.info? 5).map (fun i=>(i.zero,i.size,i.bytes))=some (some (.int .u8 0),1,1):=by kernel_rfl
abbrev zB:Value:=.int .u8 0
theorem mk_bytes (N:Nat) (h:N≤8589934592) (w:World):(Instr.makeSlice 98 (.int .i64 (N:Int)) (.int .i64 (N:Int))).run prog w=.ok (.slice (some ⟨w.heap.size,0,none⟩) N N) (w.alloc (.cells (List.replicate N zB).toArray 5)):=by
 obtain ⟨i0,hi,hz0,hz1,hz2⟩:=info_parts infoU8
 have hr:=run_make (P:=prog) w 98 5 i0 zB underlying98 hi hz0 .i64 .i64 (N:Int) (N:Int) (by omega) (by omega) (by rw [hz2];omega) (by omega)
 rw [hz1] at hr
 have e:madeCells (zB).cells ((N:Int).toNat * 1)=(List.replicate N zB).toArray:=by
  have:=toList_madeCells_one zB N
  rw [Int.toNat_natCast,Nat.mul_one,← this];rfl
 rw [e,Int.toNat_natCast] at hr
 exact hr
def bufL (a:Str) (N:Nat):List Value:=Go.Lib.byteCells a++List.replicate (N - a.length) zB
theorem bufL_len {a:Str} {N:Nat} (h:a.length≤N):(bufL a N).length=N:=by simp [bufL,Go.Lib.byteCells];omega
theorem bufL_splice {a n:Str} {N:Nat} (h:a.length+n.length≤N):splice (bufL a N) a.length (Go.Lib.byteCells n)=bufL (a++n) N:=by
 unfold splice bufL
 have e:(Go.Lib.byteCells a).length=a.length:=by simp [Go.Lib.byteCells]
 have e2:(Go.Lib.byteCells n).length=n.length:=by simp [Go.Lib.byteCells]
 rw [List.take_append_of_le_length (by omega),List.take_of_length_le (by omega),e2,List.drop_append,e,List.drop_of_length_le (by omega),List.nil_append,List.drop_replicate]
 rw [show Go.Lib.byteCells (a++n)=Go.Lib.byteCells a++Go.Lib.byteCells n by simp [Go.Lib.byteCells],List.append_assoc,List.length_append]
 congr 3;omega
theorem bufL_set {a:Str} {c:UInt8} {N:Nat} (h:a.length < N):(bufL a N).set a.length (.int .u8 (c.toNat:Nat))=bufL (a++[c]) N:=by
 unfold bufL
 have e:(Go.Lib.byteCells a).length=a.length:=by simp [Go.Lib.byteCells]
 obtain ⟨m,hm⟩:∃ m,N - a.length=m+1:=⟨N - a.length - 1,by omega⟩
 rw [hm,List.replicate_succ,List.set_append,if_neg (by omega),e,Nat.sub_self,List.set_cons_zero]
 rw [show Go.Lib.byteCells (a++[c])=Go.Lib.byteCells a++[.int .u8 (c.toNat:Nat)] by simp [Go.Lib.byteCells],List.append_assoc,List.length_append,List.length_singleton]
 rw [show N - (a.length+1)=m by omega];rfl
def SrcAt (n:Str) (w:World) (bb q g:Nat):Prop:=0 < (Go.Lib.byteCells n).length→(some ⟨bb,q,none⟩:Option Addr)=some ⟨bb,q,none⟩∧∃ ad,(some ⟨g,0,none⟩:Option Addr)=some ad∧∀ j v,(Go.Lib.byteCells n)[j]?=some v→w.cell? (ad.add j)=some v
theorem escT_take {t:Str} {i:Nat} (h:i < t.length):escT (t.take (i+1))=escT (t.take i)++(repB (t.getD i 0)).getD [t.getD i 0]:=by
 rw [← escC_rep];exact take_flat h
theorem escT_take_le (t:Str) (i:Nat):(escT (t.take i)).length≤(escT t).length:=by
 have e:t.take i++t.drop i=t:=List.take_append_drop i t
 have:=congrArg (fun x=>(escT x).length) e
 simp only [escT,List.flatMap_append,List.length_append] at this ⊢
 omega
theorem below_drewN {B:Nat} {w w':World} (h:Below B w w') (n:Nat):Below B w (w'.drewN n):=⟨h.os,h.tape,h.output,h.size,h.block⟩
set_option maxHeartbeats 4000000 in
set_option maxRecDepth 100000 in
theorem bsr_replace (tb kb kcap:Nat) (C:Array Value) (w:World) (t:Str) (ht:t.length≤1073741824) (hT:TabAt tb kb kcap C w) :
  Calls prog 349 #[.pointer (some ⟨tb,0,none⟩),.string ⟨t.toArray⟩] w fun e w'=>e=.returned (sv (escT t))∧Below w.heap.size w w':=by
 have c256:w.cell? ⟨tb,256,none⟩=some (.slice (some ⟨kb,0,none⟩) 3 kcap):=by rw [cell_blk hT.blk];exact hT.key
 have H:Aside (TabAt tb kb kcap C w):=hT
 clear hT
 have hnq:∀ (a:Option Addr) (n c:Nat) (w:World),(binOp .neq 98 (.slice a n c) (.slice none 0 0)).run prog w=.ok (.bool (!a.isNone)) w:=fun a n c w=>Go.run_neq_slice_nil w _ _ a n c underlying98
 have mixed:prog.follows .mixedOrders=true:=by kernel_rfl
 obtain ⟨b24,hb24⟩:∃ b,decide ((24:Int)≤(t.length:Nat))=b:=⟨_,rfl⟩
 go_enter func349,ntmps349
 go_upto_if 26 with fail
 go_cut [5,6] (fun v5 v6 wx=>v5=.int .i64 ((t.length:Int)+cntE t)∧v6=.bool (!decide (cntE t=0))∧Below w.heap.size w wx)
 case first =>
  clear hb24
  cases b24 with
  | true =>
   go_wp2
   go_loopg [5,6,32] 3 (fun k v5 v6 v32 wx=>∃ i:Nat,i+k=3∧v32=.int .i64 i∧v5=.int .i64 ((t.length:Int)+cK i t)∧v6=.bool (!decide (cK i t=0))∧Below w.heap.size w wx)
   case atStart=>exact ⟨0,rfl,rfl,by simp [cK],by simp [cK],.refl _ _⟩
   case round =>
    obtain ⟨i,hik,rfl,rfl,rfl,hB⟩:=hrel
    by_cases hi:i < 3
    ·obtain ⟨k',rfl⟩:∃ k',gk=k'+1:=⟨gk - 1,by omega⟩
     obtain ⟨c,n,hk1,hk2,hk3,hk4⟩:=key_step t hi
     have hT:=H.out.below hB
     have ck:=hT.keys i _ hk1
     have hr:=hT.rep c
     rw [hk2] at hr
     obtain ⟨g,cap,hr1,_⟩:=hr
     have cc:wr.cell? ⟨tb,c.toNat,none⟩=some (.slice (some ⟨g,0,none⟩) n.length cap):=by rw [cell_blk hT.blk];exact hr1
     have hba:=ba1 c
     have hc256:(c.toNat:Int) < 256:=by have:=c.toNat_lt;omega
     have hcnt:t.count c≤t.length:=List.count_le_length
     have hck:cK i t≤12 * t.length:=by
      have h1:t.count 62≤t.length:=List.count_le_length
      have h2:t.count 60≤t.length:=List.count_le_length
      have h3:t.count 38≤t.length:=List.count_le_length
      unfold cK;repeat' split
      all_goals omega
     have K3:Aside (cK (i+1) t=cK i t+t.count c * (n.length - 1)):=hk3
     have B3:Aside (Below w.heap.size w wr):=hB
     have hi3:(i:Int) < 3:=by omega
     clear hT hr1 hk1 hk2 hk3 hB
     have hCnt:=Go.Proofs.Tryz.strings_Count_one ⟨t.toArray⟩ c wr
     have hcl:Go.Lib.countByte (⟨t.toArray⟩:ByteArray).data.toList c=t.count c:=rfl
     rw [hcl] at hCnt
     clear hcl
     generalize t.count c=m at *
     by_cases hc0:m=0
     ·subst hc0
      have K4:Aside (cK (i+1) t=cK i t):=(show cK (i+1) t=cK i t by rw [K3.out,Nat.zero_mul,Nat.add_zero])
      go_wp2_with (go_at_call 267;refine hCnt.mono ?_;rintro e w' ⟨rfl,rfl⟩)
      go_roundg k'
      case measure=>omega
      case rel=>exact ⟨i+1,by omega,rfl,by rw [K4.out],by rw [K4.out],B3.out⟩
     ·have hcp:0 < m:=by omega
      have hne:(((m:Nat):Int) != 0)=true:=by simp;omega
      rcases hk4 with h5 | h5
      all_goals
       rw [h5] at cc K3
       clear h5
       go_wp2_with (go_at_call 267;refine hCnt.mono ?_;rintro e w' ⟨rfl,rfl⟩)
       go_quiet (fail)
       go_wp2
       go_roundg k'
       case measure=>omega
       case rel=>exact ⟨i+1,by omega,rfl,by rw [K3.out];simp;omega,by rw [K3.out,decide_eq_false (by omega)];rfl,below_drewN B3.out _⟩
    ·have hi3:i=3:=by omega
     subst hi3
     have K4:Aside (cK 3 t=cntE t):=cK_all t
     have B3:Aside (Below w.heap.size w wr):=hB
     clear hB
     go_wp2
     go_meet
     case rel=>exact ⟨by rw [K4.out],by rw [K4.out],B3.out⟩
  | false =>
   go_wp2
   go_loopg [5,6,10] t.length (fun k v5 v6 v10 wx=>∃ i:Nat,i+k=t.length∧v10=.int .i64 i∧v5=.int .i64 ((t.length:Int)+cntE (t.take i))∧v6=.bool (!decide (cntE (t.take i)=0))∧wx=w)
   case atStart=>exact ⟨0,by omega,rfl,by simp [cntE],by simp [cntE],rfl⟩
   case round =>
    obtain ⟨i,hik,rfl,rfl,rfl,rfl⟩:=hrel
    by_cases hi:i < t.length
    ·obtain ⟨k',rfl⟩:∃ k',gk=k'+1:=⟨gk - 1,by omega⟩
     obtain ⟨c,hc⟩:∃ c,t.getD i 0=c:=⟨_,rfl⟩
     have hix:∀ h:i < (⟨t.toArray⟩:ByteArray).size,((⟨t.toArray⟩:ByteArray)[i]'h).toNat=c.toNat:=fun h=>by rw [← hc];simp [List.getD,hi];rfl
     have K3:Aside (cntE (t.take (i+1))=cntE (t.take i)+gE c):=(show cntE (t.take (i+1))=cntE (t.take i)+gE c by rw [cntE_take hi,hc])
     have hc256:(c.toNat:Int) < 256:=by have:=c.toNat_lt;omega
     have hil:(i:Int) < (t.length:Nat):=by omega
     have hr:=H.out.rep c
     have hbk:=H.out.blk
     clear hc
     cases hn:repB c with
     | none =>
      rw [hn] at hr
      have cc:wr.cell? ⟨tb,c.toNat,none⟩=some (.slice none 0 0):=by rw [cell_blk hbk];exact hr
      have K4:Aside (cntE (t.take (i+1))=cntE (t.take i)):=(show cntE (t.take (i+1))=cntE (t.take i) by rw [K3.out];unfold gE;rw [hn];rfl)
      clear hr hbk hn
      go_wp2
      go_roundg k'
      case measure=>omega
      case rel=>exact ⟨i+1,by omega,rfl,by rw [K4.out],by rw [K4.out],rfl⟩
     | some n =>
      rw [hn] at hr
      obtain ⟨g,cap,hr1,_⟩:=hr
      have cc:wr.cell? ⟨tb,c.toNat,none⟩=some (.slice (some ⟨g,0,none⟩) n.length cap):=by rw [cell_blk hbk];exact hr1
      have K4:Aside (cntE (t.take (i+1))=cntE (t.take i)+(n.length - 1)):=(show cntE (t.take (i+1))=cntE (t.take i)+(n.length - 1) by rw [K3.out];unfold gE;rw [hn])
      have hn5:1 < n.length∧n.length≤5:=⟨repB_pos hn,repB_le hn⟩
      have hck:=cntE_le (t.take i)
      have htk:(t.take i).length≤t.length:=by rw [List.length_take];omega
      have hw1:wrap64 ((n.length:Int) - 1)=((n.length - 1:Nat):Int):=by unfold wrap64;omega
      have hw2:wrap64 ((t.length:Int)+(cntE (t.take i):Nat)+((n.length - 1:Nat):Int))=(t.length:Int)+(cntE (t.take i):Nat)+((n.length - 1:Nat):Int):=by unfold wrap64;omega
      clear hr1 hbk hn
      go_wp2
      go_roundg k'
      case measure=>omega
      case rel=>exact ⟨i+1,by omega,rfl,by rw [K4.out];simp;omega,by rw [K4.out,decide_eq_false (by omega)];rfl,rfl⟩
    ·have hge:i=t.length:=by omega
     subst hge
     have hnl:¬ ((t.length:Nat):Int) < (t.length:Nat):=by omega
     go_wp2
     go_meet
     case rel=>exact ⟨rfl,rfl,.refl _ _⟩
 case rest =>
  obtain ⟨h5,h6,hB⟩:=hcut
  have B3:Aside (Below w.heap.size w wc):=hB
  have T3:Aside (TabAt tb kb kcap C wc):=H.out.below hB
  clear hB c256
  by_cases h0:cntE t=0
  ·have hE:Aside (escT t=t):=escT_same t h0
   rw [decide_eq_true h0] at h6
   subst h5 h6
   clear h0
   go_wp2
   go_ret
   exact ⟨by rw [hE.out];rfl,B3.out⟩
  ·rw [decide_eq_false h0] at h6
   have hce:=cntE_le t
   obtain ⟨N,hN⟩:∃ N,N=t.length+cntE t:=⟨_,rfl⟩
   have hNi:(t.length:Int)+(cntE t:Nat)=(N:Nat):=by omega
   have hNe:Aside (N=(escT t).length):=(show N=(escT t).length by rw [hN,escT_lenE])
   have hNb:N≤8589934592:=by omega
   have hmk:=mk_bytes N hNb
   rw [hNi] at h5
   subst h5 h6
   clear h0 hce hN hNi
   go_wp2
   go_loopg [13,14] t.length (fun k v13 v14 wx=>∃ i:Nat,i+k=t.length∧v14=.int .i64 i∧v13=.int .i64 ((escT (t.take i)).length:Nat)∧wx.heap[wc.heap.size]?=some (.cells (bufL (escT (t.take i)) N).toArray 5 (0,0))∧Below wc.heap.size wc wx)
   case atStart=>exact ⟨0,by omega,rfl,rfl,World.alloc_heap_new _ _,(Below.refl _ _).alloc (Nat.le_refl _) _⟩
   case round =>
    obtain ⟨i,hik,rfl,rfl,hbk,hBw⟩:=hrel
    have B4:Aside (Below wc.heap.size wc wr):=hBw
    by_cases hi:i < t.length
    ·obtain ⟨k',rfl⟩:∃ k',gk=k'+1:=⟨gk - 1,by omega⟩
     obtain ⟨c,hc⟩:∃ c,t.getD i 0=c:=⟨_,rfl⟩
     have hix:∀ h:i < (⟨t.toArray⟩:ByteArray).size,((⟨t.toArray⟩:ByteArray)[i]'h).toNat=c.toNat:=fun h=>by rw [← hc];simp [List.getD,hi];rfl
     have K3:escT (t.take (i+1))=escT (t.take i)++(repB c).getD [c]:=by rw [escT_take hi,hc]
     have hle:=escT_take_le t (i+1)
     rw [← hNe.out,K3,List.length_append] at hle
     have hc256:(c.toNat:Int) < 256:=by have:=c.toNat_lt;omega
     have hil:(i:Int) < (t.length:Nat):=by omega
     have hT:=T3.out.below hBw
     have hr:=hT.rep c
     have htb:=hT.blk
     clear hc hT hBw
     generalize ha:escT (t.take i)=a at *
     obtain ⟨q,hq⟩:∃ q,a.length=q:=⟨_,rfl⟩
     cases hn:repB c with
     | none =>
      rw [hn] at hr hle K3
      have hqN:q < N:=by rw [← hq];simp at hle;omega
      have hqNi:(q:Int) < (N:Nat):=by omega
      have cc:wr.cell? ⟨tb,c.toNat,none⟩=some (.slice none 0 0):=by rw [cell_blk htb];exact hr
      have cq:wr.cell? ⟨wc.heap.size,q,none⟩=some ((bufL a N).getD q zB):=by
       have hbl:=bufL_len (a:=a) (N:=N) (by omega)
       rw [cell_blk hbk,List.getElem?_toArray,List.getElem?_eq_getElem (by omega)];simp [List.getD,hbl,hqN]
      have fq:wr.frozen? ⟨wc.heap.size,q,none⟩=false:=by simp [World.frozen?,hbk]
      have K4:Aside (escT (t.take (i+1))=a++[c]):=K3
      have HB:Aside (wr.heap[wc.heap.size]?=some (.cells (bufL a N).toArray 5 (0,0))):=hbk
      have HQ:Aside (a.length=q):=hq
      rw [hq]
      clear hr htb hn hle K3 hbk hq
      go_wp2
      go_roundg k'
      case measure=>omega
      case rel =>
       refine ⟨i+1,by omega,rfl,by rw [K4.out,List.length_append,HQ.out];rfl,?_,B4.out.setCell (p:=⟨wc.heap.size,q,none⟩) (Nat.le_refl _) _⟩
       rw [K4.out,setCell_at _ _ _ _ _ _ _ HB.out,List.setIfInBounds_toArray,← HQ.out,bufL_set (by rw [HQ.out];exact hqN)]
     | some n =>
      rw [hn] at hr hle K3
      obtain ⟨g,cap,hr1,hr2⟩:=hr
      have hn5:1 < n.length∧n.length≤5:=⟨repB_pos hn,repB_le hn⟩
      have hqN:q+n.length≤N:=by rw [← hq];simpa using hle
      have hqNi:(q:Int) < (N:Nat):=by omega
      have hqne:¬ N=q:=by omega
      have hqle:q≤N:=by omega
      have cc:wr.cell? ⟨tb,c.toNat,none⟩=some (.slice (some ⟨g,0,none⟩) n.length cap):=by rw [cell_blk htb];exact hr1
      have K4:Aside (escT (t.take (i+1))=a++n):=K3
      have HB:Aside (wr.heap[wc.heap.size]?=some (.cells (bufL a N).toArray 5 (0,0))):=hbk
      have HQ:Aside (a.length=q):=hq
      have HS:Aside (∀ (j:Nat) (b:UInt8),n[j]?=some b→wr.cell? ⟨g,j,none⟩=some (.int .u8 (b.toNat:Nat))):=hr2
      have hsz:(prog.info? 5).map (·.size)=some 1:=by kernel_rfl
      have hw1:wrap64 ((q:Int)+(n.length:Nat))=(q:Int)+(n.length:Nat):=by unfold wrap64;omega
      have hbn:(Go.Lib.byteCells n).length=n.length:=by simp [Go.Lib.byteCells]
      have L1:Aside ((Go.Lib.byteCells n).length=Nat.min n.length (N - q)):=(show (Go.Lib.byteCells n).length=Nat.min n.length (N - q) by rw [hbn];exact (Nat.min_eq_left (Nat.le_sub_of_add_le (by rw [Nat.add_comm];exact hqN))).symm)
      have L2:Aside (SrcAt n wr.drew wc.heap.size q g):=fun _=>⟨rfl,_,rfl,fun j v hj=>by
       simp only [Go.Lib.byteCells,List.getElem?_map] at hj
       cases hb:n[j]? with
       | none=>rw [hb] at hj;cases hj
       | some b=>rw [hb] at hj;cases hj;rw [Addr.add_lit,Nat.zero_add];exact hr2 j b hb⟩
      have L3:Aside (q+(Go.Lib.byteCells n).length≤(bufL a N).length):=(show q+(Go.Lib.byteCells n).length≤(bufL a N).length by rw [hbn,bufL_len (by rw [hq];exact hqle)];exact hqN)
      have L4:Aside (∀ v∈Go.Lib.byteCells n,v.oneCell'=true):=Go.Lib.byteCells_one n
      have HN:Aside ((Go.Lib.byteCells n).length=n.length):=hbn
      rw [hq]
      clear hr1 hr2 htb hn hle K3 hbk hq hbn
      go_wp2
      go_region_law (refine step_copy_splice rfl (.tmp 105) (.tmp 111) 98 98 rfl 5 underlying98 hsz (some ⟨wc.heap.size,q,none⟩) (some ⟨g,0,none⟩) (N - q) (N - q) n.length cap (by simp [Act.eval,Act.put]) (by simp [Act.eval,Act.put]) wc.heap.size q (bufL a N) 5 HB.out (Go.Lib.byteCells n) L1.out L2.out L3.out L4.out wc.heap.size wc B4.out.drew (Nat.le_refl _) ?_;intro w4 hg4 hb4;rw [HN.out])
      have B5:Aside (Below wc.heap.size wc w4):=hb4
      have HG:Aside (w4.heap[wc.heap.size]?=some (.cells (splice (bufL a N) q (Go.Lib.byteCells n)).toArray 5 (0,0))):=hg4
      clear hb4 hg4
      go_wp2
      go_roundg k'
      case measure=>omega
      case rel =>
       refine ⟨i+1,by omega,rfl,by rw [K4.out,List.length_append,HQ.out];rfl,?_,B5.out⟩
       rw [K4.out,HG.out,← HQ.out,bufL_splice (by rw [HQ.out];exact hqN)]
    ·have hge:i=t.length:=by omega
     subst hge
     have hnl:¬ ((t.length:Nat):Int) < (t.length:Nat):=by omega
     have HB:Aside (wr.heap[wc.heap.size]?=some (.cells (bufL (escT (t.take t.length)) N).toArray 5 (0,0))):=hbk
     have hcv:(convert 98 9 (.slice (some ⟨wc.heap.size,0,none⟩) N N)).run prog wr=.ok (.string ⟨(escT t).toArray⟩) wr:=by
      have h:=run_convert_bytes_back (P:=prog) wr 98 9 5 ⟨wc.heap.size,0,none⟩ N (escT t) underlying98 underlying5 underlying9 (by
       intro j hj
       rw [Addr.add_lit,Nat.zero_add,cell_blk HB.out,List.take_length,List.getElem?_toArray]
       unfold bufL
       rw [List.getElem?_append_left (by simpa [Go.Lib.byteCells] using hj)]
       simp [Go.Lib.byteCells,hj])
      rw [← hNe.out] at h
      exact h
     clear hbk hBw
     go_wp2
     go_ret
     exact ⟨rfl,B3.out.trans (B4.out.mono B3.out.size)⟩
end Go.Ab
