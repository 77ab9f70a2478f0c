import Derived.Test.YtjnachnjfdgpgaaGreatDoorLibRp
import Derived.Test.YtjnachnjfdgpgaaGreatDoorLibNum
import Derived.Lib.SplitLaws
import Derived.Test.YtjnachnjfdgpgaaGreatDoorShelf
set_option linter.all false
set_option maxRecDepth 20000
set_option maxHeartbeats 1000000
namespace Go.Ab
open Go Go.Proofs.Tryz
open Go.RowKit Go.Shelf
theorem tab_of_bst {w W W':World} (h:BSt w 3 W) (hk:∀ b,w.heap.size≤b→W'.heap[b]?=W.heap[b]?):∃ kb kcap C,TabAt (w.heap.size+1) kb kcap C W':=by
 obtain ⟨tv,C,b1,b2,b3,b4,b5,b6,b7⟩:=h
 obtain ⟨kb,kcap,rfl⟩:=ownsRow_succ b4
 refine ⟨kb,kcap,C,(hk _ (by omega)).trans b1,b3,fun j s hj=>?_,fun c=>?_⟩
 ·obtain ⟨_,⟨h0,_⟩ | ⟨g',cap',cur,hv,hb,hg1,hkk,hm,hsz,htk⟩⟩:=b4
  ·cases h0
  ·cases hv
   have hj3:j < 3:=(List.getElem?_eq_some_iff.1 hj).1
   have h6:(cur.toList.take (3 * 1))[j]?=some (sv s):=by rw [htk,List.getElem?_map,List.getElem?_take,if_pos hj3,hj];rfl
   rw [List.getElem?_take,if_pos (by omega),Array.getElem?_toList] at h6
   rw [cell_blk ((hk _ hb).trans hg1)];exact h6
 ·have hr:=b6 c.toNat c.toNat_lt
  unfold repB
  cases hc:repK 3 c.toNat with
  | none=>rw [hc] at hr;exact hr
  | some n =>
   rw [hc] at hr
   obtain ⟨g,cap,D,fz,e1,e2,e3,e4,e5⟩:=hr
   exact ⟨g,cap,e1,fun j b hj=>by rw [cell_blk ((hk _ e2).trans e4)];exact e5 j b hj⟩
theorem keep_below {w w':World} (h:Below w.heap.size w w'):Keep (fun _=>False) w w':=⟨h.os,h.tape,h.output,h.size,fun b hb _=>h.block b hb⟩
theorem keep_alloc0 (w:World) (o:Go.Obj):Keep (fun _=>False) w (w.alloc o):=keep_below ((Below.refl _ w).alloc (Nat.le_refl _) o)
set_option maxHeartbeats 2000000 in
set_option maxRecDepth 100000 in
theorem rep_replace (r ob cap:Nat) (w:World) (t:Str) (ht:t.length≤1073741824) (hob:ob < w.heap.size) (hne:ob≠r) (hrb:w.heap[r]?=some (.cells #[.int .u32 0,.int .i32 0,.int .u32 0,.nilIface,.slice (some ⟨ob,0,none⟩) 6 cap] 204 (0,0))) (hc:StrsAt w ob rplL) :
  Calls prog 172 #[.pointer (some ⟨r,0,none⟩),.string ⟨t.toArray⟩] w fun e w'=>e=.returned (sv (escT t))∧Keep (fun b=>b=r) w w':=by
 have hdo:=rep_do r ob cap w hob hne hrb hc
 clear hc hne
 go_enter func172,ntmps172
 go_wp2_with (go_at_call 223;refine hdo.mono ?_)
 rintro e w' ⟨rfl,w2,⟨W,hB,rfl⟩,hw'⟩
 have hr:r < w.heap.size:=(Array.getElem?_eq_some_iff.1 hrb).1
 have hs1:(w.setCell ⟨r,1,none⟩ (.int .i32 1)).heap.size=w.heap.size:=by simp
 obtain ⟨tb,htb⟩:∃ tb,tb=w.heap.size+1:=⟨_,rfl⟩
 have hoff:∀ b,b≠r→w'.heap[b]?=W.heap[b]?:=fun b hb=>by
  rw [hw',setCell_off _ _ _ _ _ hb,setCell_off _ _ _ _ _ hb]
  show ((W.setCell _ _).setCell _ _).heap[b]?=_
  rw [setCell_off _ _ _ _ _ hb,setCell_off _ _ _ _ _ hb]
 have hWs:w.heap.size≤W.heap.size:=by
  obtain ⟨_,_,_,_,_,_,_,_,b7⟩:=hB
  have:=b7.size;omega
 have hws:W.heap.size=w'.heap.size:=by rw [hw'];simp
 have hB0:Below 0 w w':=by
  obtain ⟨_,_,_,_,_,_,_,_,b7⟩:=hB
  rw [hw']
  refine ((((((Below.refl 0 w).setCell (p:=⟨r,1,none⟩) (Nat.zero_le _) _).trans (b7.mono (Nat.zero_le _))).setCell (p:=⟨r,3,none⟩) (Nat.zero_le _) _).setCell (p:=⟨r,4,none⟩) (Nat.zero_le _) _).drew.setCell (p:=⟨r,0,none⟩) (Nat.zero_le _) _).setCell (p:=⟨r,1,none⟩) (Nat.zero_le _) _
 have hold:∀ b,b < w.heap.size→b≠r→w'.heap[b]?=w.heap[b]?:=fun b hb hn=>by
  obtain ⟨_,_,_,_,_,_,_,_,b7⟩:=hB
  rw [hoff b hn,b7.block b (by omega),setCell_off _ _ _ _ _ hn]
 have c3:w'.cell? ⟨r,3,none⟩=some (.iface 241 (.pointer (some ⟨tb,0,none⟩))):=by
  have g1:=setCell_at w r 1 (.int .i32 1) _ _ _ hrb
  have g2:=(show W.heap[r]?=(w.setCell ⟨r,1,none⟩ (.int .i32 1)).heap[r]? by
   obtain ⟨_,_,_,_,_,_,_,_,b7⟩:=hB
   exact b7.block r (by omega)).trans g1
  have g3:=setCell_at W r 3 (.iface 241 (.pointer (some ⟨(w.setCell ⟨r,1,none⟩ (.int .i32 1)).heap.size+1,0,none⟩))) _ _ _ g2
  have g4:=setCell_at _ r 4 (.slice none 0 0) _ _ _ g3
  have g5:=setCell_at (World.drew ((W.setCell ⟨r,3,none⟩ (.iface 241 (.pointer (some ⟨(w.setCell ⟨r,1,none⟩ (.int .i32 1)).heap.size+1,0,none⟩)))).setCell ⟨r,4,none⟩ (.slice none 0 0))) r 0 (.int .u32 1) _ _ _ g4
  have g6:=setCell_at _ r 1 (.int .i32 0) _ _ _ g5
  rw [hw',cell_blk g6,htb]
  simp
 obtain ⟨kb,kcap,C,hT⟩:=tab_of_bst (W':=w') hB (fun b hb=>hoff b (by rw [hs1] at hb;omega))
 rw [hs1,← htb] at hT
 have hrep:=bsr_replace tb kb kcap C w' t ht hT
 have HK:Aside (Keep (fun b=>b=r) w w'):=(⟨hB0.os,hB0.tape,hB0.output,hB0.size,fun b hb hn=>hold b hb hn⟩:Keep (fun b=>b=r) w w')
 have hm:∀ w a,(method 435 241 (.pointer (some a)) "Replace").run prog w=.ok (349,.pointer (some a)) w:=fun _ _=>by kernel_rfl
 clear hold hoff hws hWs hB0 hw' hB hs1 htb hdo hrb hob hr hT
 go_wp2_with (go_at_call 349;refine hrep.mono ?_;rintro e w3 ⟨rfl,hB3⟩)
 go_ret
 exact ⟨rfl,HK.out.trans ((keep_below hB3).mono fun _ h=>h.elim)⟩
set_option maxHeartbeats 2000000 in
set_option maxRecDepth 100000 in
theorem escT_walk (w:World) (t:Str) (ht:t.length≤1073741824):Calls prog 101 #[.string ⟨t.toArray⟩] w fun e w'=>e=.returned (sv (escT t))∧Keep (fun _=>False) w w':=by
 have hg:w.heap.size < (w.alloc (.cells #[.string ⟨#[38]⟩,.string ⟨#[38,97,109,112,59]⟩,.string ⟨#[60]⟩,.string ⟨#[38,108,116,59]⟩,.string ⟨#[62]⟩,.string ⟨#[38,103,116,59]⟩] 9)).heap.size:=by simp
 have hn:=callsIn_wide.1 (newRep_in w.heap.size _ hg (fun j s hj=>by
  rw [cell_blk (World.alloc_heap_new _ _)]
  rcases j with _ | _ | _ | _ | _ | _ | j
  all_goals first | (cases hj;rfl) | (simp [rplL] at hj)))
 have hA:Aside (Keep (fun _=>False) w (w.alloc (.cells #[.string ⟨#[38]⟩,.string ⟨#[38,97,109,112,59]⟩,.string ⟨#[60]⟩,.string ⟨#[38,108,116,59]⟩,.string ⟨#[62]⟩,.string ⟨#[38,103,116,59]⟩] 9))):=keep_alloc0 _ _
 clear hg
 go_enter func101,ntmps101
 go_wp2_with fail
 go_at_call 171
 refine hn.mono ?_
 rintro e w1 ⟨r,ob,cap,rfl,hB1,hr1,hob1,hne,hrb,hst⟩
 have hob:ob < w1.heap.size:=World.block_lt_of_cell? _ _ (hst 0 _ rfl)
 have hrep:=rep_replace r ob cap w1 t ht hob hne hrb hst
 have HK:Aside (Keep (fun _=>False) w w1):=(hA.out.trans (keep_below hB1):Keep (fun _=>False) w w1)
 have HR:Aside (w.heap.size < r):=(show w.heap.size < r by rw [World.size_alloc] at hr1;exact hr1)
 clear hB1 hr1 hob1 hne hrb hst hob hn hA
 go_wp2_with (go_at_call 172;refine hrep.mono ?_;rintro e w3 ⟨rfl,hK3⟩)
 go_ret
 refine ⟨rfl,?_⟩
 have k1:=HK.out
 exact ⟨hK3.os.trans k1.os,hK3.tape.trans k1.tape,hK3.output.trans k1.output,Nat.le_trans k1.size hK3.size,fun b hb hn=>(hK3.block b (Nat.lt_of_lt_of_le hb k1.size) (fun e=>by have:=HR.out;omega)).trans (k1.block b hb hn)⟩
theorem below_keep {w w':World} (h:Keep (fun _=>False) w w'):Below w.heap.size w w':=⟨h.os,h.tape,h.output,h.size,fun b hb=>h.block b hb fun h=>h⟩
noncomputable def sp_escTi:Spec:=⟨[.sc],[.rd],true,fun
 | [.str t]=>some (some (t.length≤1073741824),.str (escT t),[])
 | _=>none⟩
@[push_cast] theorem sp_escTi_s:sp_escTi.ps=[.sc]∧sp_escTi.modes=[.rd]∧sp_escTi.pure=true:=⟨rfl,rfl,rfl⟩
@[push_cast] theorem sp_escTi_run (t:Str):sp_escTi.run [.str t]=some (some (t.length≤1073741824),.str (escT t),[]):=rfl
theorem c_escTi:CRow P0 ety0 101 sp_escTi:=by
 refine ⟨?_,ent_of func101 rfl rfl⟩
 intro args p r outs hrun hq w R vs F hrel hR hFR hFl hG
 simp only [sp_escTi] at hrun
 split at hrun<;>cases hrun
 rename_i t
 obtain ⟨u,rfl,⟨_,h⟩⟩:=args1 hrel
 cases relA_str h
 refine (escT_walk w t (hq _ rfl)).mono fun e w' h=>?_
 obtain ⟨he,hk⟩:=h
 exact fin_plain (P:=P0) rfl hR he (below_keep hk) fun X=>.str _
def subB (c:UInt8) (q:Str) (s:Str):Str:=s.flatMap fun x=>if x=c then q else [x]
theorem subK (c:UInt8) (q:Str):∀ s:Str,Go.Lib.replaceK [c] q (Go.Lib.count s [c]) s=subB c q s
 | []=>by rw [Go.Lib.count_one];rfl
 | x :: r=>by
  have ih:=subK c q r
  by_cases h:x=c
  ·subst h
   have hix:Go.Lib.index (x :: r) [x]=((0:Nat):Int):=by rw [Go.Lib.index];simp [List.isPrefixOf]
   rw [Go.Lib.count_cons_eq,Nat.add_comm,Go.Lib.replaceK_hit _ _ _ _ 0 hix]
   show q++Go.Lib.replaceK [x] q _ r=_
   rw [ih]
   simp [subB]
  ·rw [Go.Lib.count_cons_ne x c r h]
   have e:subB c q (x :: r)=x :: subB c q r:=by simp [subB,h]
   rw [e,← ih]
   cases hk:Go.Lib.count r [c] with
   | zero=>rfl
   | succ k =>
    obtain ⟨j,hj⟩:=Go.Lib.index_of_count (s:=r) (old:=[c]) (by omega)
    have hp:([c]:Str).isPrefixOf (x :: r)=false:=by simp [List.isPrefixOf,Ne.symm h]
    have hix:Go.Lib.index (x :: r) [c]=((j+1:Nat):Int):=by
     rw [Go.Lib.index,hp,hj]
     have h1:((j:Int) == -1)=false:=by rw [beq_eq_false_iff_ne];omega
     simp [h1]
    rw [Go.Lib.replaceK_hit _ _ _ _ _ hix,Go.Lib.replaceK_hit _ _ _ _ _ hj]
    simp [Nat.add_right_comm]
theorem subAll (c:UInt8) (q s:Str) (h:([c]:Str)≠q):Go.Lib.replaceAll s [c] q=subB c q s:=by
 unfold Go.Lib.replaceAll Go.Lib.replace Go.Lib.replaceNum
 have h1:(([c]:Str) == q)=false:=by rw [beq_eq_false_iff_ne];exact h
 rw [h1,if_pos (Or.inl (by decide))]
 exact subK c q s
theorem escV_sub (t:Str):escV t=subB 34 [38,113,117,111,116,59] (escT t):=by
 unfold escV subB escT
 rw [List.flatMap_assoc]
 congr 1
 funext c
 unfold escQ escC
 by_cases h1:c=34
 ·subst h1;rfl
 ·rw [if_neg h1]
  repeat' split
  all_goals first | rfl | simp [h1]
noncomputable def sp_subQ:Spec:=⟨[.sc,.sc,.sc],[.rd,.rd,.rd],true,fun
 | [.str s,.str [34],.str [38,113,117,111,116,59]]=>some (some (s.length≤1073741824),.str (subB 34 [38,113,117,111,116,59] s),[])
 | _=>none⟩
@[push_cast] theorem sp_subQ_s:sp_subQ.ps=[.sc,.sc,.sc]∧sp_subQ.modes=[.rd,.rd,.rd]∧sp_subQ.pure=true:=⟨rfl,rfl,rfl⟩
@[push_cast] theorem sp_subQ_run (s:Str):sp_subQ.run [.str s,.str [34],.str [38,113,117,111,116,59]]=some (some (s.length≤1073741824),.str (subB 34 [38,113,117,111,116,59] s),[]):=rfl
theorem c_subQ:CRow P0 ety0 225 sp_subQ:=by
 refine ⟨?_,ent_of func225 rfl rfl⟩
 intro args p r outs hrun hq w R vs F hrel hR hFR hFl hG
 simp only [sp_subQ] at hrun
 split at hrun<;>cases hrun
 rename_i s
 have hs:=hq _ rfl
 obtain ⟨u,v,x,rfl,⟨_,h1⟩,⟨_,h2⟩,⟨_,h3⟩⟩:=args3 hrel
 cases relA_str h1
 cases relA_str h2
 cases relA_str h3
 obtain ⟨w0,hk0,hw0⟩:=hG
 obtain ⟨m,hm⟩:=Go.Proofs.Tryz.laysM155.s1_3 w0 hk0.1
 have hcl:=Go.Lib.countB_le ⟨#[34]⟩ (Nat.le_refl _) _ (⟨s.toArray⟩:ByteArray) (Nat.le_refl _)
 have hsz:(⟨s.toArray⟩:ByteArray).size=s.length:=str_size _
 have h6:(⟨#[38,113,117,111,116,59]⟩:ByteArray).size=6:=rfl
 refine (Go.Proofs.Tryz.strings_ReplaceAll ⟨s.toArray⟩ ⟨#[34]⟩ ⟨#[38,113,117,111,116,59]⟩ m w (by omega) (gi_cell hw0 hm) (Nat.le_refl _) (by rw [h6];omega)).mono fun e w' h=>?_
 obtain ⟨he,hb⟩:=h
 rw [show Go.Lib.replaceAll (⟨s.toArray⟩:ByteArray).data.toList (⟨#[34]⟩:ByteArray).data.toList (⟨#[38,113,117,111,116,59]⟩:ByteArray).data.toList=subB 34 [38,113,117,111,116,59] s from subAll 34 _ s (by decide)] at he
 exact fin_plain (P:=P0) rfl hR he hb fun X=>.str _
noncomputable def sp_escVi:Spec:=⟨[.sc],[.rd],true,fun
 | [.str t]=>some (some (t.length≤134217728),.str (escV t),[])
 | _=>none⟩
@[push_cast] theorem sp_escVi_s:sp_escVi.ps=[.sc]∧sp_escVi.modes=[.rd]∧sp_escVi.pure=true:=⟨rfl,rfl,rfl⟩
@[push_cast] theorem sp_escVi_run (t:Str):sp_escVi.run [.str t]=some (some (t.length≤134217728),.str (escV t),[]):=rfl
noncomputable def e_escVi:Env:=mk [(101,sp_escTi),(225,sp_subQ)] [] [] [] none
@[push_cast] theorem e_escVi_e:MkE e_escVi [(101,sp_escTi),(225,sp_subQ)] [] [] [] none:=⟨rfl,rfl,rfl,rfl,rfl,rfl,rfl⟩
theorem c_escVi:CRow P0 ety0 174 sp_escVi:=CRow.of (E:=e_escVi) (mkOk (.cons c_escTi (.cons c_subQ (.nil)))) func174 rfl rfl rfl (by
 intro args p r outs h hq
 simp only [sp_escVi] at h;split at h<;>cases h
 rename_i t
 have hs:=hq _ rfl
 refine Body.intro (rs:=[.tmp 2]) rfl rfl rfl ?_
 apply vc_run 1000 (stop:=false) rfl;simp only [push_cast,simprocAttr]
 have h1:=flatMap_len (f:=escC) (n:=6) (fun c=>Nat.le_succ_of_le (escC_len c)) t
 change (escT t).length≤_ at h1
 exact ⟨by omega,by omega,by rw [escV_sub]⟩)
end Go.Ab
