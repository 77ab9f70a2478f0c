import Derived.Test.YtjnachnjfdgpgaaGreatDoorLibNum
import Derived.Test.YtjnachnjfdgpgaaGreatDoorEng4
import Derived.Test.YtjnachnjfdgpgaaGreatDoorShelf
set_option linter.all false
set_option maxRecDepth 20000
set_option maxHeartbeats 1000000
namespace Go.Ab
open Go Go.Proofs.Tryz
open Go.RowKit Go.Shelf
attribute [push_cast] List.tail_cons
theorem flat_bytes {ety:K→TypeId} (l:Str):(l.map (elemCD ety .u8)).flatten=l.map fun b=>CD.sc (.int .u8 (b.toNat:Nat)):=by
 induction l with
 | nil=>rfl
 | cons b r ih =>
  show elemCD ety .u8 b++(r.map (elemCD ety .u8)).flatten=_
  rw [ih];rfl
abbrev bcs (l:Str):List Value:=Go.Lib.byteCells l
theorem own_bytes {w:World} {R:Nat→Prop} {l:Str} {v:Value} {F:Nat→Prop} (h:OwnO w R true (dataCD ety0 ⟨.u8,l⟩) v F):ownR w (ety0 .u8) 1 v l.length (bcs l)∧∀ b,F b↔v.ownBlock=some b:=by
 have h':OwnO w R true (.sl (ety0 .u8) 1 (l.map (elemCD ety0 .u8))) v F:=h
 obtain ⟨us,gs,ho,hn,hc,hb,hF⟩:=h'.open
 rw [List.length_map] at ho
 have hlen:=hc.len
 rw [flat_bytes,List.length_map] at hlen
 have key:∀ k (hk:k < us.length),us[k]=.int .u8 ((l.getD k 0).toNat:Nat)∧∀ b,¬ gs k b:=fun k hk=>by
  have h2:=hc.rel k (.sc (.int .u8 ((l.getD k 0).toNat:Nat))) us[k] (by rw [flat_bytes,List.getElem?_map,List.getElem?_eq_getElem (by omega)];simp [List.getD,show k < l.length by omega]) (List.getElem?_eq_getElem hk)
  have h3:Own w (.sc (.int .u8 ((l.getD k 0).toNat:Nat))) us[k] (gs k):=h2
  generalize us[k]=z at h3
  cases h3 with
  | sc v F hF=>exact ⟨rfl,hF⟩
 have hus:us=bcs l:=by
  apply List.ext_getElem (by simp [bcs,Go.Lib.byteCells,hlen])
  intro k h1 h2
  rw [(key k h1).1]
  simp [bcs,Go.Lib.byteCells,List.getD,show k < l.length by omega]
 rw [hus] at ho
 refine ⟨ho,fun b=>(hF b).trans ⟨fun h=>h.elim id fun ⟨k,hk,hg⟩=>absurd hg ((key k hk).2 b),.inl⟩⟩
theorem bytes_own {w:World} {R:Nat→Prop} {l:Str} {v:Value} (h:ownR w (ety0 .u8) 1 v l.length (bcs l)):OwnO w R true (dataCD ety0 ⟨.u8,l⟩) v (fun b=>v.ownBlock=some b):=by
 have hrow:∀ row∈l.map (elemCD ety0 .u8),row.length=1:=fun row hr=>by obtain ⟨x,_,rfl⟩:=List.mem_map.1 hr;rfl
 refine OwnO.mk (fs:=fun _ _=>False) (xs:=bcs l) (by rw [List.length_map];exact h) hrow ⟨by rw [flat_bytes];simp [bcs,Go.Lib.byteCells],fun k cd u hk hu=>?_,fun _ _ _ _ _ h=>h.elim⟩ (fun _ _ _ h=>h.elim) fun b=>?_
 ·rw [flat_bytes,List.getElem?_map] at hk
  simp only [bcs,Go.Lib.byteCells,List.getElem?_map] at hu
  cases hx:l[k]? with
  | none=>rw [hx] at hk;cases hk
  | some x =>
   rw [hx] at hk hu
   cases hk
   cases hu
   exact Own.sc _ _ fun _ h=>h
 ·simp
theorem infoU8b:(prog.info? 5).map (fun i=>(i.zero,i.size,i.bytes))=some (some (.int .u8 0),1,1):=by kernel_rfl
theorem bytes_append {w:World} {R:Nat→Prop} {l s:Str} {v:Value} (hR:∀ b,R b→b < w.heap.size) (hG:GI.p w R) (ho:ownR w (ety0 .u8) 1 v l.length (bcs l)) (hFR:∀ b,v.ownBlock=some b→¬ R b) (hfit:l.length+s.length≤1073741824) :
  ∃ u w',(Builtin.append_ #[98,9] 98 #[v,sv s]).run prog w=.ok u w'∧ownR w' (ety0 .u8) 1 u (l++s).length (bcs (l++s))∧(∀ b,u.ownBlock=some b→v.ownBlock=some b∨w.heap.size≤b)∧Keep (fun b=>v.ownBlock=some b) w w':=by
 obtain ⟨i0,hi,hz0,hz1,hz2⟩:=info_parts infoU8b
 let G:Beg:=⟨w,R,fun b=>v.ownBlock=some b,0⟩
 have wb:WRel (ctx0 ety0 w R) G:=⟨fun _=>trivial,fun _ _=>rfl,fun _ _ _ h=>absurd rfl h,fun _ _ h=>absurd rfl h,hR,.refl _ _,fun _ h=>h,fun _ h=>.inl h,fun _ _ h=>absurd rfl h,hG⟩
 have hfr:Free (ctx0 ety0 w R) G (fun b=>v.ownBlock=some b):=⟨hFR,fun _ _ h=>absurd rfl h,fun b hb=>ho.lt hb,fun b hb=>.inr hb⟩
 have hs:Go.Src prog 1 9 (sv s) s.length (bcs s) w:=by
  have h:=Go.Src.ofString (P:=prog) (w:=w) (tx:=9) underlying9 ⟨s.toArray⟩
  rw [show (⟨s.toArray⟩:ByteArray).size=s.length from str_size _] at h
  exact h
 obtain ⟨u,w',hr,X',h1,h2,h3,h4,h5,h6⟩:=app_core (P:=prog) (X:=ctx0 ety0 w R) (G:=G) (k:=.u8) (ty:=98) wb (.inr rfl) underlying98 hi hz1 hz0 rfl (by rw [hz2];decide) (xs:=l) (l:=s) (q:=true) (q':=true) (fs:=fun _ _=>False) (gs:=fun _ _=>False) ho hfr bytes_cells (fun _ _ _ h=>h.elim) bytes_cells (fun _ _ _ _ _ h=>h.elim) (fun _ _ _ h=>h.elim) hs hfit
 have hob:=h2.ob 0
 unfold ObjOk at hob
 rw [h3] at hob
 obtain ⟨_,ho'⟩:=hob
 have hu:u=(X'.ob 0).v:=by
  cases h6 with
  | row id v hid h=>exact h
 have hw':X'.w=w':=h5
 have hety:X'.ety=ety0:=h1.ety
 rw [← hu,hw',hety] at ho'
 obtain ⟨o1,o2⟩:=own_bytes ho'
 have hl0:Go.Ab.live X' 0:=by unfold Go.Ab.live;rw [h3];exact fun h=>by cases h
 refine ⟨u,w',hr,o1,fun b hb=>?_,?_⟩
 ·rcases h2.fn 0 b hl0 ((o2 b).2 hb) with h | h
  ·exact .inr h
  ·exact .inl h
 ·have:=h2.kp
  rw [hw'] at this
  exact this
theorem wpList_app_run {P:Program} {w w':World} {ops:Array Oper} {rest:List Oper} {o:Oper} {a:Act} {Q:Exit→Act→World→Prop} (hgd:o.guard=none) (sl x:Operand) (t u:TypeId)
  (ho:o.op=.call { callee:=.builtin .append,args:=#[sl,x],argTypes:=#[t,u] }) (v vx r:Value) (hs:a.eval sl=v) (hx:a.eval x=vx) (hr:(Builtin.append_ #[t,u] o.type #[v,vx]).run P w=.ok r w')
  (h:wpList P ops Q rest (a.put o.dst r) w'):wpList P ops Q (o :: rest) a w:=by
 refine wpList_plain hgd fun K hK=>?_
 unfold Oper.wp execOp
 simp only [ho,resolve,invoke,builtin,Sem.run_bind,Sem.run_pure,Result.andThen_ok,List.map_toArray,List.map_cons,List.map_nil,hs,hx,hr]
 exact hK _ _ h
structure BldAt (w:World) (b:Nat) (p v:Value) (l:Str):Prop where
 blk:w.heap[b]?=some (.cells #[p,v] 121 (0,0))
 ptr:p=.pointer none∨p=.pointer (some ⟨b,0,none⟩)
 row:ownR w (ety0 .u8) 1 v l.length (bcs l)
 ne:v.ownBlock≠some b
theorem pb_bld {w:World} {R:Nat→Prop} {l:Str} {u:Value} {F:Nat→Prop} (h:RelA (ctx0 ety0 w R) (.pb [.slb 121,.own true ⟨.u8,l⟩]) u F) :
  ∃ b p v,u=.pointer (some ⟨b,0,none⟩)∧BldAt w b p v l∧∀ n,F n↔n=b∨v.ownBlock=some n:=by
 cases h with
 | pl c v F h hF=>cases h
 | pb cs b t arr fs F hb hl h hd hnb hF hsf =>
  obtain ⟨L⟩:=arr
  match L,hl with
  | [p,v],_ =>
   obtain ⟨hp,rfl⟩:=hsf 0 _ p rfl rfl
   obtain ⟨h1,h2⟩:=own_bytes (relA_own (h 1 _ v rfl rfl))
   have hn0:∀ n,¬ fs 0 n:=fun n hn=>by
    have h0:=h 0 _ p rfl rfl
    cases h0 with
    | pl c v F h hF=>exact hF n hn
   refine ⟨b,p,v,rfl,⟨hb,hp,h1,fun e=>hnb 1 (by simp) ((h2 b).2 e)⟩,fun n=>(hF n).trans ⟨fun h=>h.imp id fun ⟨j,hj,hf⟩=>?_,fun h=>h.imp id fun h=>⟨1,by simp,(h2 n).2 h⟩⟩⟩
   match j,hj,hf with
   | 0,_,hf=>exact absurd hf (hn0 n)
   | 1,_,hf=>exact (h2 n).1 hf
theorem bld_pb {w:World} {R:Nat→Prop} {l:Str} {b:Nat} {p v:Value} (h:BldAt w b p v l):RelA (ctx0 ety0 w R) (.pb [.slb 121,.own true ⟨.u8,l⟩]) (.pointer (some ⟨b,0,none⟩)) (fun n=>n=b∨v.ownBlock=some n):=by
 refine .pb _ b 121 #[p,v] (fun j n=>j=1∧v.ownBlock=some n) _ h.blk rfl (fun j c u hj hu=>?_) (fun j k n _ _ h1 h2=>by rw [h1.1,h2.1]) (fun j _ hn=>h.ne hn.2) (fun n=>⟨fun h=>h.imp id fun h=>⟨1,by simp,rfl,h⟩,fun h=>h.imp id fun ⟨_,_,h⟩=>h.2⟩) (fun j T u hj hu=>?_)
 ·match j,hj,hu with
  | 0,hj,hu=>cases hj;cases hu;exact .pl _ _ _ (.slb _ _) fun n hn=>by simp at hn
  | 1,hj,hu =>
   cases hj;cases hu
   have e:(fun n=>(1:Nat)=1∧v.ownBlock=some n)=fun n=>v.ownBlock=some n:=by funext n;simp
   rw [e]
   exact .own _ _ _ _ (bytes_own h.row)
 ·match j,hj,hu with
  | 0,hj,hu=>cases hj;cases hu;exact ⟨h.ptr,rfl⟩
  | 1,hj,hu=>cases hj
theorem copyCheck_bld {w:World} {b:Nat} {p v:Value} {l:Str} (h:BldAt w b p v l):∃ w1,Calls prog 170 #[.pointer (some ⟨b,0,none⟩)] w (fun e w'=>e=.returned (.tuple #[])∧w'=w1)∧BldAt w1 b (.pointer (some ⟨b,0,none⟩)) v l∧Keep (fun x=>x=b) w w1:=by
 have hb:=h.blk
 rcases h.ptr with rfl | rfl
 ·refine ⟨_,Go.Proofs.Any.Builder_copyCheck_fresh { Go.Proofs.Tryz.lays155 with } Go.Proofs.Tryz.Builder_Extra_155.toX72 b w (by rw [cell_blk hb];rfl) (show w.shape? b=some (121,2) by simp [World.shape?,hb]) (by simp [World.frozen?,hb]),?_,?_⟩
  ·have hk:Keep (fun x=>x=b) w (w.setCell ⟨b,0,none⟩ (.pointer (some ⟨b,0,none⟩))):=⟨rfl,rfl,rfl,by simp,fun c _ hc=>by
    show (w.heap.modify b _)[c]?=_
    rw [Array.getElem?_modify,if_neg (fun e=>hc e.symm)]⟩
   refine ⟨?_,.inr rfl,h.row.keep fun c hc=>hk.block c (h.row.lt hc) (fun e=>h.ne (by rw [← e];exact hc)),h.ne⟩
   show (w.heap.modify b _)[b]?=_
   rw [Array.getElem?_modify,if_pos rfl,hb];rfl
  ·exact ⟨rfl,rfl,rfl,by simp,fun c _ hc=>by
    show (w.heap.modify b _)[c]?=_
    rw [Array.getElem?_modify,if_neg (fun e=>hc e.symm)]⟩
 ·exact ⟨w,Go.Proofs.Any.Builder_copyCheck_used { Go.Proofs.Tryz.lays155 with } Go.Proofs.Tryz.Builder_Extra_155.toX72 b w (by rw [cell_blk hb];rfl),h,.refl _ _⟩
set_option maxHeartbeats 2000000 in
set_option maxRecDepth 100000 in
theorem write_bld {w:World} {R:Nat→Prop} {b:Nat} {p v:Value} {l s:Str} (h:BldAt w b p v l) (hR:∀ b,R b→b < w.heap.size) (hG:GI.p w R) (hbR:¬ R b) (hvR:∀ c,v.ownBlock=some c→¬ R c) (hfit:l.length+s.length≤1073741824) :
  Calls prog 100 #[.pointer (some ⟨b,0,none⟩),sv s] w fun e w'=>e=.returned (.tuple #[.int .i64 (s.length:Nat),.nilIface])∧∃ u,BldAt w' b (.pointer (some ⟨b,0,none⟩)) u (l++s)∧(∀ c,u.ownBlock=some c→v.ownBlock=some c∨w.heap.size≤c)∧Keep (fun x=>x=b∨v.ownBlock=some x) w w':=by
 obtain ⟨w1,hcc,h1,k1⟩:=copyCheck_bld h
 have hb1:=h1.blk
 have hblt:b < w.heap.size:=lt_of_heap h.blk
 obtain ⟨u,w2,hap,o1,o2,k2⟩:=bytes_append (R:=R) (fun c hc=>Nat.lt_of_lt_of_le (hR c hc) k1.size) (GI.mono hG (fun _ h=>h) fun c hc hlt=>k1.block c hlt fun e=>hbR (by rw [← e];exact hc)) h1.row hvR hfit
 have hb2:w2.heap[b]?=some (.cells #[.pointer (some ⟨b,0,none⟩),v] 121 (0,0)):=(k2.block b (lt_of_heap hb1) h1.ne).trans hb1
 have c1:w1.cell? ⟨b,1,none⟩=some v:=by rw [cell_blk hb1];rfl
 have c2:w2.cell? ⟨b,1,none⟩=some v:=by rw [cell_blk hb2];rfl
 have f2:w2.frozen? ⟨b,1,none⟩=false:=by simp [World.frozen?,hb2]
 have hsz:(⟨s.toArray⟩:ByteArray).size=s.length:=str_size _
 have hu1:u.oneCell'=true:=by
  rcases o1.2 with ⟨rfl,_⟩ | ⟨_,_,_,_,rfl,_⟩<;>rfl
 have hune:u.ownBlock≠some b:=fun e=>by
  rcases o2 b e with h | h
  ·exact h1.ne h
  ·have:=lt_of_heap hb1;omega
 have HF:Aside (∃ u',BldAt (w2.setCell ⟨b,1,none⟩ u) b (.pointer (some ⟨b,0,none⟩)) u' (l++s)∧(∀ c,u'.ownBlock=some c→v.ownBlock=some c∨w.heap.size≤c)∧Keep (fun x=>x=b∨v.ownBlock=some x) w (w2.setCell ⟨b,1,none⟩ u)):=by
  have k3:Keep (fun x=>x=b) w2 (w2.setCell ⟨b,1,none⟩ u):=⟨rfl,rfl,rfl,by simp,fun c _ hc=>by
   show (w2.heap.modify b _)[c]?=_
   rw [Array.getElem?_modify,if_neg (fun e=>hc e.symm)]⟩
  refine ⟨u,⟨?_,.inr rfl,o1.keep fun c hc=>k3.block c (o1.lt hc) (fun e=>hune (by rw [← e];exact hc)),hune⟩,fun c hc=>(o2 c hc).imp id fun h=>Nat.le_trans k1.size h,((k1.mono fun _ h=>.inl h).trans (k2.mono fun _ h=>.inr h)).trans (k3.mono fun _ h=>.inl h)⟩
  show (w2.heap.modify b _)[b]?=_
  rw [Array.getElem?_modify,if_pos rfl,hb2];rfl
 obtain ⟨ao,n',cap,rfl⟩:∃ ao n' cap,u=.slice ao n' cap:=by
  rcases o1.2 with ⟨rfl,_⟩ | ⟨_,_,_,_,rfl,_⟩<;>exact ⟨_,_,_,rfl⟩
 have HA:Aside ((Builtin.append_ #[98,9] 98 #[v,sv s]).run prog w1=.ok (.slice ao n' cap) w2):=hap
 clear hap h h1 hb1 hb2 k1 k2 o1 o2 hblt hG hR hbR hvR hune hfit
 go_enter func100,ntmps100
 go_wp2_with (first | (go_at_call 170;refine hcc.mono ?_;rintro e w' ⟨rfl,rfl⟩) | (at_builtin;refine wpList_app_run rfl (.tmp 12) (.tmp 13) 98 9 rfl _ _ _ rfl rfl HA.out ?_))
 go_ret2
 exact ⟨by rw [← hsz];rfl,HF.out⟩
noncomputable def sp_bws:Spec:=⟨[.sc,.sc],[.io,.rd],false,fun
 | [.pb [.slb 121,.own true ⟨.u8,l⟩],.str s]=>some (some (l.length+s.length≤1073741824),.tup [.int .i64 (s.length:Nat),.val .nilIface],[.pb [.slb 121,.own true ⟨.u8,l++s⟩]])
 | _=>none⟩
@[push_cast] theorem sp_bws_s:sp_bws.ps=[.sc,.sc]∧sp_bws.modes=[.io,.rd]∧sp_bws.pure=false:=⟨rfl,rfl,rfl⟩
@[push_cast] theorem sp_bws_run (l s:Str):sp_bws.run [.pb [.slb 121,.own true ⟨.u8,l⟩],.str s]=some (some (l.length+s.length≤1073741824),.tup [.int .i64 (s.length:Nat),.val .nilIface],[.pb [.slb 121,.own true ⟨.u8,l++s⟩]]):=rfl
theorem c_bws:CRow P0 ety0 100 sp_bws:=by
 refine ⟨?_,ent_of func100 rfl rfl⟩
 intro args p r outs hrun hq w R vs F hrel hR hFR hFl hG
 simp only [sp_bws] at hrun
 split at hrun<;>cases hrun
 rename_i l s
 obtain ⟨hl,fs,hg,hd,hF⟩:=argsF hrel
 obtain ⟨vs⟩:=vs
 match vs,hl with
 | [u,x],_ =>
  have hx:x=sv s:=relA_str (hg 1 _ x rfl rfl)
  subst hx
  obtain ⟨b,p,v,rfl,hB,hf⟩:=pb_bld (hg 0 _ u rfl rfl)
  have hF0:∀ n,n=b∨v.ownBlock=some n→F n:=fun n hn=>(hF n).2 ⟨0,by simp,(hf n).2 hn⟩
  refine (write_bld (R:=R) hB hR hG (hFR b (hF0 b (.inl rfl))) (fun c hc=>hFR c (hF0 c (.inr hc))) (hq _ rfl)).mono fun e w' h=>?_
  obtain ⟨he,u',hB',ho,hk⟩:=h
  have hF':∀ n,n=b∨u'.ownBlock=some n→w.heap.size≤n∨F n:=fun n hn=>by
   rcases hn with rfl | hn
   ·exact .inr (hF0 _ (.inl rfl))
   ·rcases ho n hn with h | h
    ·exact .inr (hF0 _ (.inr h))
    ·exact .inl h
  refine ⟨_,R,fun n=>n=b∨u'.ownBlock=some n,he,fun _ h=>h,fun c h=>Nat.lt_of_lt_of_le (hR c h) hk.size,fun c h=>.inl h,?_,fun c hc hRc=>?_,hF',hk.mono hF0⟩
  ·refine .agg _ _ (fun j n=>j=1∧(n=b∨u'.ownBlock=some n)) _ rfl (fun j c z hj hz=>?_) (fun j k n _ _ h1 h2=>by rw [h1.1,h2.1]) fun n=>⟨fun h=>⟨1,by simp,rfl,h⟩,fun ⟨_,_,h⟩=>h.2⟩
   match j,hj,hz with
   | 0,hj,hz=>cases hj;cases hz;exact .pl _ _ _ (relV_tup2 (.int _ _) (.val _)) fun n hn=>by simp at hn
   | 1,hj,hz =>
    cases hj;cases hz
    have e:(fun n=>(1:Nat)=1∧(n=b∨u'.ownBlock=some n))=fun n=>n=b∨u'.ownBlock=some n:=by funext n;simp
    rw [e]
    exact bld_pb hB'
  ·rcases hF' c hc with h | h
   ·have:=hR c hRc;omega
   ·exact hFR c h hRc
theorem keep_freeze (w:World) (a:Addr) (n:Nat):Keep (fun x=>x=a.block) w (w.freeze a n):=by
 unfold World.freeze
 split
 ·exact .refl _ _
 ·refine ⟨rfl,rfl,rfl,by simp,fun c _ hc=>?_⟩
  show (w.heap.modify a.block _)[c]?=_
  rw [Array.getElem?_modify,if_neg (fun e=>hc e.symm)]
set_option maxHeartbeats 2000000 in
set_option maxRecDepth 100000 in
theorem string_bld {w:World} {b:Nat} {p v:Value} {l:Str} (h:BldAt w b p v l):Calls prog 105 #[.pointer (some ⟨b,0,none⟩)] w fun e w'=>e=.returned (sv l)∧Keep (fun x=>v.ownBlock=some x) w w':=by
 have mixed:prog.follows .mixedOrders=true:=by kernel_rfl
 have hbk:=h.blk
 have hbl:=lt_of_heap hbk
 have c1:w.drew.cell? ⟨b,1,none⟩=some v:=by rw [cell_blk (show w.drew.heap[b]?=_ from hbk)];rfl
 have hU0:∀ (q:Option Addr) (W:World),(Builtin.unsafeString_ #[162,3] 9 #[.pointer q,.int .i64 0]).run prog W=.ok (.string .empty) W:=fun q W=>Go.Lib.run_unsafeString_none W _ _ _ q
 have k0:Keep (fun x=>v.ownBlock=some x) w w.drew:=(keep_drew _ w)
 rcases h.row.2 with ⟨rfl,h0⟩ | ⟨g,cap,cur,fz,rfl,⟨e,hg,htg⟩,hfz,hcap,hm,hsz,htk⟩
 ·obtain rfl:l=[]:=List.eq_nil_of_length_eq_zero h0
  have hSD:∀ ty,(Builtin.unsafeSliceData_ #[98] ty #[.slice none 0 0]).run prog w.drew=.ok (.pointer none) w.drew:=fun _=>rfl
  clear h hbk hbl h0
  go_enter func105,ntmps105
  go_wp2
  go_region_o
  all_goals (go_wp2;go_ret;exact ⟨rfl,k0⟩)
 ·obtain rfl:e=5:=htg.resolve_left (by decide)
  have hgd:w.drew.heap[g]?=some (.cells cur 5 fz):=hg
  cases l with
  | nil =>
   by_cases hc0:cap=0
   ·subst hc0
    have hSD:(Builtin.unsafeSliceData_ #[98] 162 #[.slice (some ⟨g,0,none⟩) 0 0]).run prog w.drew=.ok (.pointer (some ⟨w.drew.heap.size,0,none⟩)) (w.drew.alloc (.view ⟨g,0,none⟩ 5)) :=
     Go.Lib.run_unsafeSliceData_zero w.drew _ _ 5 underlying162 ⟨g,0,none⟩ 0 (5,cur.size) (by simp [World.shape?,hgd])
    have c2:(w.drew.alloc (.view ⟨g,0,none⟩ 5)).cell? ⟨b,1,none⟩=some (.slice (some ⟨g,0,none⟩) 0 0):=by
     rw [World.cell?_alloc_past _ _ _ (by exact hbl)];exact c1
    have c3:(w.alloc (.view ⟨g,0,none⟩ 5)).drew.cell? ⟨b,1,none⟩=some (.slice (some ⟨g,0,none⟩) 0 0):=c2
    have c0:w.cell? ⟨b,1,none⟩=some (.slice (some ⟨g,0,none⟩) 0 0):=c1
    have k1:Keep (fun x=>(Value.slice (some ⟨g,0,none⟩) 0 0).ownBlock=some x) w (w.alloc (.view ⟨g,0,none⟩ 5)):=(keep_alloc _ _).mono fun _ h=>h.elim
    clear h hbk hbl hg hgd htk
    go_enter func105,ntmps105
    go_wp2
    go_region_o
    all_goals (go_wp2;go_ret;exact ⟨rfl,k1.trans (keep_drew _ _)⟩)
   ·have hSD:∀ ty,(Builtin.unsafeSliceData_ #[98] ty #[.slice (some ⟨g,0,none⟩) 0 cap]).run prog w.drew=.ok (.pointer (some ⟨g,0,none⟩)) w.drew:=fun _=>Go.Lib.run_unsafeSliceData_row _ _ _ _ _ _ hc0
    clear h hbk hbl hg hgd htk hc0
    go_enter func105,ntmps105
    go_wp2
    go_region_o
    all_goals (go_wp2;go_ret;exact ⟨rfl,k0⟩)
  | cons c r =>
   generalize hl:c :: r=l at *
   have hne:l≠[]:=by rw [← hl];exact List.cons_ne_nil _ _
   have hl0:l.length≠0:=by rw [← hl];simp
   have hSD:∀ ty,(Builtin.unsafeSliceData_ #[98] ty #[.slice (some ⟨g,0,none⟩) l.length cap]).run prog w.drew=.ok (.pointer (some ⟨g,0,none⟩)) w.drew:=fun _=>Go.Lib.run_unsafeSliceData_row _ _ _ _ _ _ (by omega)
   have hUS:(Builtin.unsafeString_ #[162,3] 9 #[.pointer (some ⟨g,0,none⟩),.int .i64 l.length]).run prog w.drew=.ok (.string ⟨l.toArray⟩) (w.drew.freeze ⟨g,0,none⟩ l.length):=by
    refine Go.Lib.run_unsafeString_row w.drew 162 3 9 5 underlying162 (by kernel_rfl) g cur.size (by simp [World.shape?,hgd]) l hne (by omega) (by unfold maxLen at hm;omega) ?_
    intro j x hx
    have hj:j < l.length:=(List.getElem?_eq_some_iff.1 hx).1
    have h6:(cur.toList.take (l.length * 1))[j]?=some (.int .u8 (x.toNat:Nat)):=by rw [htk];simp [bcs,Go.Lib.byteCells,hx]
    rw [List.getElem?_take,if_pos (by omega),Array.getElem?_toList] at h6
    rw [Addr.add_lit,Nat.zero_add,cell_blk hgd]
    exact h6
   have kf:Keep (fun x=>(Value.slice (some ⟨g,0,none⟩) l.length cap).ownBlock=some x) w (w.drew.freeze ⟨g,0,none⟩ l.length):=k0.trans ((keep_freeze _ _ _).mono fun x hx=>by rw [hx];rfl)
   clear h hbk hbl hg hgd htk hU0 hl0 hl hne
   go_enter func105,ntmps105
   go_wp2
   go_region_o
   all_goals (go_wp2;go_ret;exact ⟨rfl,kf⟩)
noncomputable def sp_bst:Spec:=⟨[.sc],[.io],false,fun
 | [.pb [.slb 121,.own true ⟨.u8,l⟩]]=>some (some (l.length≤1073741824),.str l,[.pb [.any,.any]])
 | _=>none⟩
@[push_cast] theorem sp_bst_s:sp_bst.ps=[.sc]∧sp_bst.modes=[.io]∧sp_bst.pure=false:=⟨rfl,rfl,rfl⟩
@[push_cast] theorem sp_bst_run (l:Str):sp_bst.run [.pb [.slb 121,.own true ⟨.u8,l⟩]]=some (some (l.length≤1073741824),.str l,[.pb [.any,.any]]):=rfl
theorem c_bst:CRow P0 ety0 105 sp_bst:=by
 refine ⟨?_,ent_of func105 rfl rfl⟩
 intro args p r outs hrun hq w R vs F hrel hR hFR hFl hG
 simp only [sp_bst] at hrun
 split at hrun<;>cases hrun
 rename_i l
 obtain ⟨hl,fs,hg,hd,hF⟩:=argsF hrel
 obtain ⟨vs⟩:=vs
 match vs,hl with
 | [u],_ =>
  obtain ⟨b,p,v,rfl,hB,hf⟩:=pb_bld (hg 0 _ u rfl rfl)
  have hF0:∀ n,n=b∨v.ownBlock=some n→F n:=fun n hn=>(hF n).2 ⟨0,by simp,(hf n).2 hn⟩
  refine (string_bld hB).mono fun e w' h=>?_
  obtain ⟨he,hk⟩:=h
  have hb':w'.heap[b]?=some (.cells #[p,v] 121 (0,0)):=(hk.block b (lt_of_heap hB.blk) hB.ne).trans hB.blk
  refine ⟨_,R,fun n=>n=b,he,fun _ h=>h,fun c h=>Nat.lt_of_lt_of_le (hR c h) hk.size,fun c h=>.inl h,?_,fun c hc hRc=>?_,fun c hc=>.inr (hF0 c (.inl hc)),hk.mono fun n hn=>hF0 n (.inr hn)⟩
  ·refine .agg _ _ (fun j n=>j=1∧n=b) _ rfl (fun j c z hj hz=>?_) (fun j k n _ _ h1 h2=>by rw [h1.1,h2.1]) fun n=>⟨fun h=>⟨1,by simp,rfl,h⟩,fun ⟨_,_,h⟩=>h.2⟩
   match j,hj,hz with
   | 0,hj,hz=>cases hj;cases hz;exact .pl _ _ _ (.str _) fun n hn=>by simp at hn
   | 1,hj,hz =>
    cases hj;cases hz
    refine .pb _ b 121 #[p,v] (fun _ _=>False) _ hb' rfl (fun j c z hj hz=>?_) (fun _ _ _ _ _ h=>h.elim) (fun _ _ h=>h) (fun n=>by simp) (fun j T z hj hz=>?_)
    ·match j,hj,hz with
     | 0,hj,hz=>cases hj;exact .pl _ _ _ (.any _) fun n hn=>hn
     | 1,hj,hz=>cases hj;exact .pl _ _ _ (.any _) fun n hn=>hn
    ·match j,hj,hz with
     | 0,hj,hz=>cases hj
     | 1,hj,hz=>cases hj
  ·rw [hc] at hRc
   exact hFR b (hF0 b (.inl rfl)) hRc
end Go.Ab
