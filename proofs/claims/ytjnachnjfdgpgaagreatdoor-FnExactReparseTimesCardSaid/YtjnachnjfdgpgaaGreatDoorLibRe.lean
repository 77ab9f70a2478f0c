import Derived.Test.YtjnachnjfdgpgaaGreatDoorLibOn
import Derived.Test.YtjnachnjfdgpgaaGreatDoorEng4
import Derived.Shelf.Abstract
import Derived.Shelf.RegionOpen
import Derived.WalkKit
import Derived.OwnWalkIn
import Derived.TacticsInMore
import Derived.LoopNIn
import Derived.LoopIn
import Derived.RangeFuncBox
import Derived.WalkSpells
import Derived.Laws.IdiomStrings
import Derived.Lib.ConvBytes
import Derived.Lib.AtoiErrMem
set_option linter.all false
set_option maxRecDepth 20000
set_option maxHeartbeats 1000000
namespace Go.Ab
open Go Go.Proofs.Tryz
open Go.RowKit Go.Shelf
def rplL:List Str:=[[38],[38,97,109,112,59],[60],[38,108,116,59],[62],[38,103,116,59]]
def StrsAt (W:World) (b:Nat) (l:List Str):Prop:=∀ j s,l[j]?=some s→W.cell? ⟨b,j,none⟩=some (sv s)
theorem infoStr:(prog.info? 9).map (fun i=>(i.zero,i.size,i.bytes))=some (some (.string ⟨#[]⟩),1,16):=by kernel_rfl
set_option maxRecDepth 100000 in
set_option maxHeartbeats 2000000 in
theorem newRep_in (g:Nat) (w:World) (hg:g < w.heap.size) (hc:StrsAt w g rplL) :
  CallsIn Fence.wide 3 prog 171 #[.slice (some ⟨g,0,none⟩) 6 6] w fun e w'=>∃ (r ob cap:Nat),e=.returned (.pointer (some ⟨r,0,none⟩))∧Below w.heap.size w w'∧w.heap.size≤r∧w.heap.size≤ob∧ob≠r ∧
   w'.heap[r]?=some (.cells #[.int .u32 0,.int .i32 0,.int .u32 0,.nilIface,.slice (some ⟨ob,0,none⟩) 6 cap] 204 (0,0))∧StrsAt w' ob rplL:=by
 obtain ⟨i0,hi,hz0,hz1,hz2⟩:=info_parts infoStr
 refine callsIn_of_wp func171 rfl trivial ?_ rfl
 simp only [ntmps171,List.size_toArray,List.length_cons,List.length_nil,Nat.reduceAdd,Nat.reduceSub,Array.replicate_succ,Array.replicate_zero,List.push_toArray,List.append_toArray,List.nil_append,List.cons_append]
 gi_wp2_with (gi_at_builtin;refine wpListIn_append_own _ rfl _ _ 39 rfl w.heap.size 9 i0 (.string ⟨#[]⟩) 1 16 underlying39 hi hz0 hz1 hz2 rfl (by decide) _ 0 [] rfl (World.ownsRow_nil _ _ _ _) ⟨g,0,none⟩ 6 6 (rplL.map sv) rfl rfl ?_ ?_ (by decide) (by decide) (Nat.le_refl _) ?_)
 ·intro j u hu
  rw [List.getElem?_map] at hu
  cases hj:rplL[j]? with
  | none=>rw [hj] at hu;cases hu
  | some s=>rw [hj] at hu;cases hu;rw [Addr.add_lit,Nat.zero_add];exact hc j s hj
 ·intro u hu
  obtain ⟨s,_,rfl⟩:=List.mem_map.1 hu
  rfl
 ·intro v' w1 hown hgr hne
  obtain ⟨ob,cap,rfl⟩:=ownsRow_succ hown
  gi_wp2
  go_ret
  obtain ⟨_,⟨h0,_⟩ | ⟨g',cap',cur,hv,hb,hg1,hk,hm,hsz,htk⟩⟩:=hown
  ·cases h0
  cases hv
  have hlt:ob < w1.heap.size:=(Array.getElem?_eq_some_iff.1 hg1).1
  have hB1:Below w.heap.size w w1:=(Below.refl _ w).grown hgr (Nat.le_refl _) (fun k e=>by cases e)
  have hcur:∀ j s,rplL[j]?=some s→w1.cell? ⟨ob,j,none⟩=some (sv s):=fun j s hj=>by
   have h6:(cur.toList.take 6)[j]?=some (sv s):=by rw [show cur.toList.take 6=rplL.map sv from htk,List.getElem?_map,hj];rfl
   have hj6:j < 6:=(List.getElem?_eq_some_iff.1 hj).1
   rw [List.getElem?_take,if_pos hj6,Array.getElem?_toList] at h6
   rw [cell_blk hg1];exact h6
  refine ⟨w1.heap.size,ob,_,rfl,hB1.alloc hB1.size _,hB1.size,hb,by omega,World.alloc_heap_new _ _,fun j s hj=>?_⟩
  rw [World.cell?_alloc_past _ _ _ hlt]
  exact hcur j s hj
theorem mk_strs3 (w:World):(Instr.makeSlice 39 (.int .i64 0) (.int .i64 3)).run prog w=.ok (.slice (some ⟨w.heap.size,0,none⟩) 0 3) (w.alloc (.cells #[.string ⟨#[]⟩,.string ⟨#[]⟩,.string ⟨#[]⟩] 9)):=by
 obtain ⟨i0,hi,hz0,hz1,hz2⟩:=info_parts infoStr
 have h:=run_makeSlice (P:=prog) (w:=w) (t:=39) (e:=9) (i:=i0) (z:=.string ⟨#[]⟩) underlying39 hi hz0 .i64 .i64 0 3 (by omega) (by omega) (by rw [hz1];decide) (by rw [hz2];decide) (by decide)
 rw [hz1] at h
 have e:madeCells (Value.string ⟨#[]⟩).cells (Int.toNat 3 * 1)=#[.string ⟨#[]⟩,.string ⟨#[]⟩,.string ⟨#[]⟩]:=by kernel_rfl
 rw [e] at h
 exact h
theorem zc_eq:zeroCells240=Array.replicate 257 (.slice none 0 0):=by kernel_rfl
theorem st_whole (b:Nat) (t:TypeId) (vs:List Value) (cur:Array Value) (W:World) (hb:W.heap[b]?=some (.cells cur t (0,0))) (hs:vs.length=cur.size) (h1:∀ v∈vs,v.oneCell'=true) :
  ∃ W2 C0,(storeCells ⟨b,0,none⟩ vs).run prog W=.ok () W2∧W2.heap[b]?=some (.cells C0 t (0,0))∧C0.size=cur.size∧(∀ k:Nat,k < cur.size→C0[k]?=vs[k]?)∧Keep (fun x=>x=b) W W2:=by
 obtain ⟨W2,C0,r1,r2,r3,r4,r5⟩:=st_cells (P:=prog) (g:=b) (o:=0) (t:=t) (fz:=(0,0)) vs 0 cur W hb (by intro k _ h;omega) (by omega) h1
 exact ⟨W2,C0,r1,r2,r3,fun k hk=>by rw [r4 k,if_pos (by omega)];simp,r5⟩
theorem st_bsr (w:World) (v:Value) (hv:v.oneCell'=true):∃ W2 C0,(storeCells ⟨w.heap.size,0,none⟩ (zeroCells240.toList.set 256 v)).run prog (w.alloc (.cells zeroCells240 240))=.ok () W2 ∧
  W2.heap[w.heap.size]?=some (.cells C0 240 (0,0))∧C0.size=257∧(∀ k:Nat,k < 256→C0[k]?=some (.slice none 0 0))∧C0[256]?=some v∧Keep (fun x=>x=w.heap.size) (w.alloc (.cells zeroCells240 240)) W2:=by
 generalize hz:zeroCells240=Z
 have hZ:Z=Array.replicate 257 (.slice none 0 0):=hz.symm.trans zc_eq
 clear hz
 have hl:Z.toList=List.replicate 257 (.slice none 0 0):=by rw [hZ,Array.toList_replicate]
 have hs:Z.size=257:=by rw [hZ,Array.size_replicate]
 obtain ⟨W2,C0,r1,r2,r3,r4,r5⟩:=st_whole w.heap.size 240 (Z.toList.set 256 v) Z (w.alloc (.cells Z 240)) (World.alloc_heap_new _ _) (by rw [List.length_set,Array.length_toList]) (fun u hu=>by
  rcases List.mem_or_eq_of_mem_set hu with hu | rfl
  ·rw [hl] at hu;rw [List.eq_of_mem_replicate hu];rfl
  ·exact hv)
 refine ⟨W2,C0,r1,r2,by rw [r3,hs],fun k hk=>?_,?_,r5⟩
 ·rw [r4 k (by omega),List.getElem?_set_ne (by omega),hl,List.getElem?_replicate,if_pos (by omega)]
 ·rw [r4 256 (by omega),List.getElem?_set_self (by rw [hl,List.length_replicate];omega)]
theorem ba62 (h:0 < (⟨#[62]⟩:ByteArray).size):((⟨#[62]⟩:ByteArray)[0]'h).toNat=62:=rfl
theorem ba60 (h:0 < (⟨#[60]⟩:ByteArray).size):((⟨#[60]⟩:ByteArray)[0]'h).toNat=60:=rfl
theorem ba38 (h:0 < (⟨#[38]⟩:ByteArray).size):((⟨#[38]⟩:ByteArray)[0]'h).toNat=38:=rfl
attribute [local go_sem] ba62 ba60 ba38
def keysR:List Str:=[[62],[60],[38]]
def repK (k:Nat) (c:Nat):Option Str:=if c=62∧1≤k then some [38,103,116,59] else if c=60∧2≤k then some [38,108,116,59] else if c=38∧3≤k then some [38,97,109,112,59] else none
def RepAt (w W:World) (u:Option Value):Option Str→Prop
 | none=>u=some (.slice none 0 0)
 | some n=>∃ (g cap:Nat) (D:Array Value) (fz:Nat × Nat),u=some (.slice (some ⟨g,0,none⟩) n.length cap)∧w.heap.size≤g∧g≠w.heap.size+1∧W.heap[g]?=some (.cells D 5 fz)∧∀ (j:Nat) (b:UInt8),n[j]?=some b→D[j]?=some (.int .u8 (b.toNat:Nat))
theorem setCell_at (W:World) (b k:Nat) (v:Value) (C:Array Value) (t:TypeId) (fz:Nat × Nat) (h:W.heap[b]?=some (.cells C t fz)):(W.setCell ⟨b,k,none⟩ v).heap[b]?=some (.cells (C.setIfInBounds k v) t fz):=by
 show (W.heap.modify b _)[b]?=_
 rw [Array.getElem?_modify,if_pos rfl,h];rfl
theorem setCell_off (W:World) (b k j:Nat) (v:Value) (h:j≠b):(W.setCell ⟨b,k,none⟩ v).heap[j]?=W.heap[j]?:=by
 show (W.heap.modify b _)[j]?=_
 rw [Array.getElem?_modify,if_neg (fun e=>h e.symm)]
def BSt (w:World) (k:Nat) (W:World):Prop :=
 ∃ tv C,W.heap[w.heap.size+1]?=some (.cells C 240 (0,0))∧C.size=257∧C[256]?=some tv∧W.ownsRow w.heap.size 9 1 tv k ((keysR.take k).map sv)∧tv.ownBlock≠some (w.heap.size+1)∧(∀ c,c < 256→RepAt w W C[c]? (repK k c))∧Below w.heap.size w W
theorem grow_step (w wr W3:World) (k m:Nat) (C:Array Value) (tv tv':Value) (xs ys:List Value) (o1 o2:Obj) (b1:wr.heap[w.heap.size+1]?=some (.cells C 240 (0,0))) (b4:wr.ownsRow w.heap.size 9 1 tv k xs) (b7:Below w.heap.size w wr)
  (hgr:((wr.alloc o1).alloc o2).grownBy W3 tv.ownBlock) (hown:W3.ownsRow w.heap.size 9 1 tv' (m+1) ys) :
  W3.heap[w.heap.size+1]?=some (.cells C 240 (0,0))∧(∀ (j:Nat) (D:Array Value) (fz:Nat × Nat),wr.heap[j]?=some (.cells D 5 fz)→W3.heap[j]?=some (.cells D 5 fz)) ∧
   tv'.ownBlock≠some (w.heap.size+1)∧Below w.heap.size w W3:=by
 have key:∀ (j:Nat) (o:Obj),wr.heap[j]?=some o→some j≠tv.ownBlock→W3.heap[j]?=some o:=fun j o ho hne=>by
  have hlt:=(Array.getElem?_eq_some_iff.1 ho).1
  refine (hgr.block j (by simp;omega) hne).trans ?_
  rw [Below.heap_alloc _ _ _ (by simp;omega),Below.heap_alloc _ _ _ hlt];exact ho
 have own:∀ (j:Nat),tv.ownBlock=some j→w.heap.size≤j∧∃ cur,wr.heap[j]?=some (.cells cur 9 (0,0)):=fun j hj=>by
  obtain ⟨_,⟨rfl,_⟩ | ⟨g,cp,cur,rfl,hb,hgg,_⟩⟩:=b4
  ·cases hj
  ·cases hj;exact ⟨hb,cur,hgg⟩
 have g3:=key _ _ b1 (fun e=>by
  obtain ⟨_,cur,hc⟩:=own _ e.symm
  rw [b1] at hc;cases hc)
 refine ⟨g3,fun j D fz hj=>key j _ hj (fun e=>by
  obtain ⟨_,cur,hc⟩:=own _ e.symm
  rw [hj] at hc;cases hc),fun e=>?_,?_⟩
 ·obtain ⟨_,⟨_,h0⟩ | ⟨g,cp,cur,rfl,hb,hgg,_⟩⟩:=hown
  ·omega
  ·cases e
   rw [g3] at hgg;cases hgg
 ·refine ((b7.alloc b7.size o1).alloc (by have:=b7.size;simp;omega) o2).grown hgr (by have:=b7.size;simp;omega) fun j hj=>(own j hj).1
theorem bst_step (w wr W3:World) (k key:Nat) (C:Array Value) (tv tv':Value) (n:Str) (cap:Nat)
  (b2:C.size=257) (b6:∀ c,c < 256→RepAt w wr C[c]? (repK k c)) (g3:W3.heap[w.heap.size+1]?=some (.cells C 240 (0,0)))
  (hb3:∀ (j:Nat) (D:Array Value) (fz:Nat × Nat),wr.heap[j]?=some (.cells D 5 fz)→W3.heap[j]?=some (.cells D 5 fz))
  (hown:W3.ownsRow w.heap.size 9 1 tv' (k+1) ((keysR.take (k+1)).map sv)) (hne:tv'.ownBlock≠some (w.heap.size+1)) (hB3:Below w.heap.size w W3)
  (hkey:key < 256) (r1:repK (k+1) key=some n) (r2:∀ c,c≠key→repK (k+1) c=repK k c) :
  BSt w (k+1) ((Go.Lib.bytesWorld (W3.setCell ⟨w.heap.size+1,256,none⟩ tv') 5 ⟨n.toArray⟩).setCell ⟨w.heap.size+1,key,none⟩ (.slice (some ⟨W3.heap.size,0,none⟩) n.length cap)):=by
 have hlt:w.heap.size+1 < W3.heap.size:=(Array.getElem?_eq_some_iff.1 g3).1
 have hs4:(W3.setCell ⟨w.heap.size+1,256,none⟩ tv').heap.size=W3.heap.size:=by simp
 have g4:=setCell_at W3 (w.heap.size+1) 256 tv' C _ _ g3
 have g5:(Go.Lib.bytesWorld (W3.setCell ⟨w.heap.size+1,256,none⟩ tv') 5 ⟨n.toArray⟩).heap[w.heap.size+1]?=_:=(Go.Lib.bytesWorld_at_old _ _ _ _ (by rw [hs4];exact hlt)).trans g4
 have g6:=setCell_at _ (w.heap.size+1) key (.slice (some ⟨W3.heap.size,0,none⟩) n.length cap) _ _ _ g5
 have hold:∀ j,j < W3.heap.size→j≠w.heap.size+1→((Go.Lib.bytesWorld (W3.setCell ⟨w.heap.size+1,256,none⟩ tv') 5 ⟨n.toArray⟩).setCell ⟨w.heap.size+1,key,none⟩ (.slice (some ⟨W3.heap.size,0,none⟩) n.length cap)).heap[j]?=W3.heap[j]?:=fun j hj hn=>by
  rw [setCell_off _ _ _ _ _ hn,Go.Lib.bytesWorld_at_old _ _ _ _ (by rw [hs4];exact hj),setCell_off _ _ _ _ _ hn]
 obtain ⟨fz6,hnew⟩:∃ fz:Nat × Nat,((Go.Lib.bytesWorld (W3.setCell ⟨w.heap.size+1,256,none⟩ tv') 5 ⟨n.toArray⟩).setCell ⟨w.heap.size+1,key,none⟩ (.slice (some ⟨W3.heap.size,0,none⟩) n.length cap)).heap[W3.heap.size]?=some (.cells (Go.Lib.bytesCells (W3.setCell ⟨w.heap.size+1,256,none⟩ tv') 5 ⟨n.toArray⟩) 5 fz):=by
  have h:=Go.Lib.bytesWorld_at_new (W3.setCell ⟨w.heap.size+1,256,none⟩ tv') 5 ⟨n.toArray⟩
  rw [hs4] at h
  exact ⟨_,by rw [setCell_off _ _ _ _ _ (by omega)];exact h⟩
 have hB6:Below w.heap.size w ((Go.Lib.bytesWorld (W3.setCell ⟨w.heap.size+1,256,none⟩ tv') 5 ⟨n.toArray⟩).setCell ⟨w.heap.size+1,key,none⟩ (.slice (some ⟨W3.heap.size,0,none⟩) n.length cap)):=by
  refine Below.setCell (p:=⟨w.heap.size+1,key,none⟩) ?_ (by simp) _
  exact ((hB3.setCell (p:=⟨w.heap.size+1,256,none⟩) (by simp) tv')).trans (by
   have:=Go.Lib.bytesWorld_below (W3.setCell ⟨w.heap.size+1,256,none⟩ tv') 5 ⟨n.toArray⟩
   exact this.mono (by rw [hs4];omega))
 refine ⟨tv',_,g6,by simp [b2],?_,?_,hne,fun c hc=>?_,hB6⟩
 ·rw [Array.getElem?_setIfInBounds_ne (by omega),Array.getElem?_setIfInBounds_self_of_lt (by omega)]
 ·obtain ⟨hl,⟨e1,e2⟩ | ⟨g,cp,cur,rfl,hb,hgg,rest⟩⟩:=hown
  ·omega
  ·exact ⟨hl,.inr ⟨g,cp,cur,rfl,hb,(hold g (Array.getElem?_eq_some_iff.1 hgg).1 (fun e=>hne (by rw [← e];rfl))).trans hgg,rest⟩⟩
 ·by_cases h:c=key
  ·subst h
   rw [r1]
   refine ⟨W3.heap.size,cap,_,_,?_,by omega,by omega,hnew,fun j b hj=>?_⟩
   ·rw [Array.getElem?_setIfInBounds_self_of_lt (by simp [b2];omega)]
   ·have hjl:=(List.getElem?_eq_some_iff.1 hj).1
    have hjv:=(List.getElem?_eq_some_iff.1 hj).2
    simp [Go.Lib.bytesCells,Array.getElem?_append,hjl,hjv]
  ·rw [r2 c h,Array.getElem?_setIfInBounds_ne (by omega),Array.getElem?_setIfInBounds_ne (by omega)]
   have h6:=b6 c hc
   cases hr:repK k c with
   | none=>rw [hr] at h6;exact h6
   | some m =>
    rw [hr] at h6
    obtain ⟨g,cp,D,fz,e1,e2,e3,e4,e5⟩:=h6
    have e6:=hb3 g D fz e4
    exact ⟨g,cp,D,fz,e1,e2,e3,(hold g (Array.getElem?_eq_some_iff.1 e6).1 e3).trans e6,e5⟩
set_option maxRecDepth 100000 in
set_option maxHeartbeats 2000000 in
theorem build_in (r ob cap:Nat) (w:World) (hob:ob < w.heap.size) (hr:w.cell? ⟨r,4,none⟩=some (.slice (some ⟨ob,0,none⟩) 6 cap))
  (h0:w.cell? ⟨ob,0,none⟩=some (.string ⟨#[38]⟩)) (h1:w.cell? ⟨ob,1,none⟩=some (.string ⟨#[38,97,109,112,59]⟩)) (h2:w.cell? ⟨ob,2,none⟩=some (.string ⟨#[60]⟩)) (h3:w.cell? ⟨ob,3,none⟩=some (.string ⟨#[38,108,116,59]⟩))
  (h4:w.cell? ⟨ob,4,none⟩=some (.string ⟨#[62]⟩)) (h5:w.cell? ⟨ob,5,none⟩=some (.string ⟨#[38,103,116,59]⟩)) :
  CallsIn Fence.wide 3 prog 247 #[.pointer (some ⟨r,0,none⟩)] w fun e w'=>e=.returned (.iface 241 (.pointer (some ⟨w.heap.size+1,0,none⟩)))∧BSt w 3 w':=by
 have hmk:=mk_strs3 w
 obtain ⟨W2,C0,hst,hC0,hC0s,hC0g,hC0t,hkp⟩:=st_bsr (w.alloc (.cells #[.string ⟨#[]⟩,.string ⟨#[]⟩,.string ⟨#[]⟩] 9)) (.slice (some ⟨w.heap.size,0,none⟩) 0 3) rfl
 rw [World.size_alloc] at hst hC0 hkp
 have bst0:BSt w 0 W2:=by
  have hB1:Below w.heap.size w ((w.alloc (.cells #[.string ⟨#[]⟩,.string ⟨#[]⟩,.string ⟨#[]⟩] 9)).alloc (.cells zeroCells240 240)):=((Below.refl _ w).alloc (Nat.le_refl _) _).alloc (by simp) _
  have hz:((w.alloc (.cells #[.string ⟨#[]⟩,.string ⟨#[]⟩,.string ⟨#[]⟩] 9)).alloc (.cells zeroCells240 240)).heap.size=w.heap.size+2:=by simp
  have hB2:Below w.heap.size w W2:=hB1.trans ⟨hkp.os,hkp.tape,hkp.output,hkp.size,fun k hk=>hkp.block k (by rw [hz];omega) (by omega)⟩
  have hr0:W2.heap[w.heap.size]?=some (.cells #[.string ⟨#[]⟩,.string ⟨#[]⟩,.string ⟨#[]⟩] 9 (0,0)):=by
   rw [hkp.block _ (by rw [hz];omega) (by omega),Below.heap_alloc _ _ _ (by simp)]
   exact World.alloc_heap_new _ _
  refine ⟨_,C0,hC0,hC0s,hC0t,⟨rfl,.inr ⟨w.heap.size,3,_,rfl,Nat.le_refl _,hr0,Nat.zero_le _,by decide,rfl,rfl⟩⟩,?_,fun c hc=>?_,hB2⟩
  ·intro e
   have h:w.heap.size=w.heap.size+1:=Option.some.inj e
   omega
  ·have hn:repK 0 c=none:=by simp [repK]
   rw [hn]
   exact hC0g c hc
 refine callsIn_of_wp func247 rfl trivial ?_ rfl
 simp only [ntmps247,List.size_toArray,List.length_cons,List.length_nil,Nat.reduceAdd,Nat.reduceSub,Array.replicate_succ,Array.replicate_zero,List.push_toArray,List.append_toArray,List.nil_append,List.cons_append]
 gi_wp2
 gi_loopw [4,5] (fun b i wr=>∃ k:Nat,k≤3∧b=.bool (k == 0)∧i=.int .i64 (2 * k:Nat)∧wr=w)
  (fun _ i _=>(6 - intOf i).toNat)
 case atStart=>exact ⟨0,by omega,rfl,rfl,rfl⟩
 case round =>
  obtain ⟨k,hk,rfl,rfl,hw⟩:=hrel
  have hw:=hw.symm
  subst hw
  match k,hk with
  | 0,_ =>
   gi_wp2
   go_roundw
   case rel=>exact ⟨1,by omega,by simp⟩
   case measure=>simp [intOf]
  | 1,_ =>
   gi_wp2
   go_roundw
   case rel=>exact ⟨2,by omega,by simp⟩
   case measure=>simp [intOf]
  | 2,_ =>
   gi_wp2
   go_roundw
   case rel=>exact ⟨3,by omega,by simp⟩
   case measure=>simp [intOf]
  | 3,_ =>
   gi_wp2
   gi_loopw [12] (fun i W=>∃ k:Nat,k≤3∧i=.int .i64 (4 - 2 * (k:Int))∧BSt w k W)
    (fun i _=>(intOf i+2).toNat)
   case atStart=>exact ⟨0,by omega,rfl,bst0⟩
   case round =>
    obtain ⟨k,hk,rfl,hB⟩:=hrel
    match k,hk with
    | 0,_ =>
     obtain ⟨tv,C,b1,b2,b3,b4,b5,b6,b7⟩:=hB
     have c4:=(b7.cell (p:=⟨ob,4,none⟩) hob).trans h4
     have c5:=(b7.cell (p:=⟨ob,5,none⟩) hob).trans h5
     have c62:wr.cell? ⟨w.heap.size+1,62,none⟩=some (.slice none 0 0):=by rw [cell_blk b1];exact b6 62 (by omega)
     have c256:wr.cell? ⟨w.heap.size+1,256,none⟩=some tv:=by rw [cell_blk b1];exact b3
     have hnil:∀ (a:Option Addr) (n c:Nat) (w:World),(binOp .eql 98 (.slice a n c) (.slice none 0 0)).run prog w=.ok (.bool a.isNone) w:=fun a n c w=>Go.Lib.run_eql_slice_nil w _ _ a n c 0 0 underlying98
     have hcb:(convert 98 9 (.slice (some ⟨wr.heap.size,0,none⟩) 1 1)).run prog (wr.alloc (.cells #[.int .u8 62] 5))=.ok (.string ⟨#[62]⟩) (wr.alloc (.cells #[.int .u8 62] 5)):=by
      have h:=run_convert_bytes_back (P:=prog) (wr.alloc (.cells #[.int .u8 62] 5)) 98 9 5 ⟨wr.heap.size,0,none⟩ 1 [62] underlying98 underlying5 underlying9 (by
       intro j hj
       have:j=0:=by simp at hj;omega
       subst this
       exact (Boxed.new wr 5 (.int .u8 62)).cell)
      exact h
     obtain ⟨i0,hi,hz0,hz1,hz2⟩:=info_parts infoStr
     gi_wp2_with (gi_at_builtin;refine wpListIn_append_own _ rfl _ _ 39 rfl w.heap.size 9 i0 (.string ⟨#[]⟩) 1 16 underlying39 hi hz0 hz1 hz2 rfl (by decide) tv 0 _ rfl ((b4.alloc _).alloc _) ⟨wr.heap.size+1,0,none⟩ 1 1 [.string ⟨#[62]⟩] rfl rfl ?_ ?_ (by decide) (by decide) ?_ ?_)
     ·intro j u hu
      rcases j with _ | j
      ·cases hu
       have bx:=Boxed.new (wr.alloc (.cells #[.int .u8 62] 5)) 9 (.string ⟨#[62]⟩)
       rw [World.size_alloc] at bx
       exact bx.cell
      ·simp at hu
     ·intro u hu
      rw [List.mem_singleton.1 hu];rfl
     ·have:=b7.size
      simp;omega
     intro v' W3 hown3 hgr3 hne3
     obtain ⟨tb,tcap,rfl⟩:=ownsRow_succ hown3
     obtain ⟨g3,hb3,hne',hB3⟩:=grow_step w wr W3 0 0 C tv _ _ _ _ _ b1 b4 b7 hgr3 hown3
     have d256:W3.cell? ⟨w.heap.size+1,256,none⟩=some tv:=by rw [cell_blk g3];exact b3
     have f256:W3.frozen? ⟨w.heap.size+1,256,none⟩=false:=by simp [World.frozen?,g3]
     have hcv:∀ (s:ByteArray) (w:World),(convert 9 98 (.string s)).run prog w=.ok (.slice (some ⟨w.heap.size,0,none⟩) s.size (grownCap w s.size 0 5)) (Go.Lib.bytesWorld w 5 s):=fun s w=>Go.Lib.run_convert_string_bytes w _ _ _ s underlying9 underlying98 underlying5
     have hltb:w.heap.size+1 < W3.heap.size:=(Array.getElem?_eq_some_iff.1 g3).1
     have g4:(W3.setCell ⟨w.heap.size+1,256,none⟩ (.slice (some ⟨tb,0,none⟩) 1 tcap)).heap[w.heap.size+1]?=some (.cells (C.setIfInBounds 256 (.slice (some ⟨tb,0,none⟩) 1 tcap)) 240 (0,0)):=by
      show (W3.heap.modify (w.heap.size+1) _)[w.heap.size+1]?=_
      rw [Array.getElem?_modify,if_pos rfl,g3];rfl
     have hs4:(W3.setCell ⟨w.heap.size+1,256,none⟩ (.slice (some ⟨tb,0,none⟩) 1 tcap)).heap.size=W3.heap.size:=by simp
     have g5:(Go.Lib.bytesWorld (W3.setCell ⟨w.heap.size+1,256,none⟩ (.slice (some ⟨tb,0,none⟩) 1 tcap)) 5 ⟨#[38,103,116,59]⟩).heap[w.heap.size+1]?=some (.cells (C.setIfInBounds 256 (.slice (some ⟨tb,0,none⟩) 1 tcap)) 240 (0,0)):=by
      rw [Go.Lib.bytesWorld_at_old _ _ _ _ (by rw [hs4];exact hltb)];exact g4
     have d62:(Go.Lib.bytesWorld (W3.setCell ⟨w.heap.size+1,256,none⟩ (.slice (some ⟨tb,0,none⟩) 1 tcap)) 5 ⟨#[38,103,116,59]⟩).cell? ⟨w.heap.size+1,62,none⟩=some (.slice none 0 0):=by
      rw [cell_blk g5,Array.getElem?_setIfInBounds_ne (by omega)];exact b6 62 (by omega)
     have f62:(Go.Lib.bytesWorld (W3.setCell ⟨w.heap.size+1,256,none⟩ (.slice (some ⟨tb,0,none⟩) 1 tcap)) 5 ⟨#[38,103,116,59]⟩).frozen? ⟨w.heap.size+1,62,none⟩=false:=by simp [World.frozen?,g5]
     gi_wp2
     go_roundw
     case rel =>
      exact ⟨1,by omega,by simp,bst_step w wr W3 0 62 C tv _ [38,103,116,59] _ b2 b6 g3 hb3 hown3 hne' hB3 (by omega) rfl (fun c hc=>by simp [repK,hc])⟩
     case measure=>simp [intOf]
    | 1,_ =>
     obtain ⟨tv,C,b1,b2,b3,b4,b5,b6,b7⟩:=hB
     have c4:=(b7.cell (p:=⟨ob,2,none⟩) hob).trans h2
     have c5:=(b7.cell (p:=⟨ob,3,none⟩) hob).trans h3
     have c62:wr.cell? ⟨w.heap.size+1,60,none⟩=some (.slice none 0 0):=by rw [cell_blk b1];exact b6 60 (by omega)
     have c256:wr.cell? ⟨w.heap.size+1,256,none⟩=some tv:=by rw [cell_blk b1];exact b3
     have hnil:∀ (a:Option Addr) (n c:Nat) (w:World),(binOp .eql 98 (.slice a n c) (.slice none 0 0)).run prog w=.ok (.bool a.isNone) w:=fun a n c w=>Go.Lib.run_eql_slice_nil w _ _ a n c 0 0 underlying98
     have hcb:(convert 98 9 (.slice (some ⟨wr.heap.size,0,none⟩) 1 1)).run prog (wr.alloc (.cells #[.int .u8 60] 5))=.ok (.string ⟨#[60]⟩) (wr.alloc (.cells #[.int .u8 60] 5)):=by
      have h:=run_convert_bytes_back (P:=prog) (wr.alloc (.cells #[.int .u8 60] 5)) 98 9 5 ⟨wr.heap.size,0,none⟩ 1 [60] underlying98 underlying5 underlying9 (by
       intro j hj
       have:j=0:=by simp at hj;omega
       subst this
       exact (Boxed.new wr 5 (.int .u8 60)).cell)
      exact h
     obtain ⟨i0,hi,hz0,hz1,hz2⟩:=info_parts infoStr
     gi_wp2_with (gi_at_builtin;refine wpListIn_append_own _ rfl _ _ 39 rfl w.heap.size 9 i0 (.string ⟨#[]⟩) 1 16 underlying39 hi hz0 hz1 hz2 rfl (by decide) tv 1 _ rfl ((b4.alloc _).alloc _) ⟨wr.heap.size+1,0,none⟩ 1 1 [.string ⟨#[60]⟩] rfl rfl ?_ ?_ (by decide) (by decide) ?_ ?_)
     ·intro j u hu
      rcases j with _ | j
      ·cases hu
       have bx:=Boxed.new (wr.alloc (.cells #[.int .u8 60] 5)) 9 (.string ⟨#[60]⟩)
       rw [World.size_alloc] at bx
       exact bx.cell
      ·simp at hu
     ·intro u hu
      rw [List.mem_singleton.1 hu];rfl
     ·have:=b7.size
      simp;omega
     intro v' W3 hown3 hgr3 hne3
     obtain ⟨tb,tcap,rfl⟩:=ownsRow_succ hown3
     obtain ⟨g3,hb3,hne',hB3⟩:=grow_step w wr W3 1 1 C tv _ _ _ _ _ b1 b4 b7 hgr3 hown3
     have d256:W3.cell? ⟨w.heap.size+1,256,none⟩=some tv:=by rw [cell_blk g3];exact b3
     have f256:W3.frozen? ⟨w.heap.size+1,256,none⟩=false:=by simp [World.frozen?,g3]
     have hcv:∀ (s:ByteArray) (w:World),(convert 9 98 (.string s)).run prog w=.ok (.slice (some ⟨w.heap.size,0,none⟩) s.size (grownCap w s.size 0 5)) (Go.Lib.bytesWorld w 5 s):=fun s w=>Go.Lib.run_convert_string_bytes w _ _ _ s underlying9 underlying98 underlying5
     have hltb:w.heap.size+1 < W3.heap.size:=(Array.getElem?_eq_some_iff.1 g3).1
     have g4:(W3.setCell ⟨w.heap.size+1,256,none⟩ (.slice (some ⟨tb,0,none⟩) 2 tcap)).heap[w.heap.size+1]?=some (.cells (C.setIfInBounds 256 (.slice (some ⟨tb,0,none⟩) 2 tcap)) 240 (0,0)):=by
      show (W3.heap.modify (w.heap.size+1) _)[w.heap.size+1]?=_
      rw [Array.getElem?_modify,if_pos rfl,g3];rfl
     have hs4:(W3.setCell ⟨w.heap.size+1,256,none⟩ (.slice (some ⟨tb,0,none⟩) 2 tcap)).heap.size=W3.heap.size:=by simp
     have g5:(Go.Lib.bytesWorld (W3.setCell ⟨w.heap.size+1,256,none⟩ (.slice (some ⟨tb,0,none⟩) 2 tcap)) 5 ⟨#[38,108,116,59]⟩).heap[w.heap.size+1]?=some (.cells (C.setIfInBounds 256 (.slice (some ⟨tb,0,none⟩) 2 tcap)) 240 (0,0)):=by
      rw [Go.Lib.bytesWorld_at_old _ _ _ _ (by rw [hs4];exact hltb)];exact g4
     have d62:(Go.Lib.bytesWorld (W3.setCell ⟨w.heap.size+1,256,none⟩ (.slice (some ⟨tb,0,none⟩) 2 tcap)) 5 ⟨#[38,108,116,59]⟩).cell? ⟨w.heap.size+1,60,none⟩=some (.slice none 0 0):=by
      rw [cell_blk g5,Array.getElem?_setIfInBounds_ne (by omega)];exact b6 60 (by omega)
     have f62:(Go.Lib.bytesWorld (W3.setCell ⟨w.heap.size+1,256,none⟩ (.slice (some ⟨tb,0,none⟩) 2 tcap)) 5 ⟨#[38,108,116,59]⟩).frozen? ⟨w.heap.size+1,60,none⟩=false:=by simp [World.frozen?,g5]
     gi_wp2
     go_roundw
     case rel =>
      exact ⟨2,by omega,by simp,bst_step w wr W3 1 60 C tv _ [38,108,116,59] _ b2 b6 g3 hb3 hown3 hne' hB3 (by omega) rfl (fun c hc=>by simp [repK,hc])⟩
     case measure=>simp [intOf]
    | 2,_ =>
     obtain ⟨tv,C,b1,b2,b3,b4,b5,b6,b7⟩:=hB
     have c4:=(b7.cell (p:=⟨ob,0,none⟩) hob).trans h0
     have c5:=(b7.cell (p:=⟨ob,1,none⟩) hob).trans h1
     have c62:wr.cell? ⟨w.heap.size+1,38,none⟩=some (.slice none 0 0):=by rw [cell_blk b1];exact b6 38 (by omega)
     have c256:wr.cell? ⟨w.heap.size+1,256,none⟩=some tv:=by rw [cell_blk b1];exact b3
     have hnil:∀ (a:Option Addr) (n c:Nat) (w:World),(binOp .eql 98 (.slice a n c) (.slice none 0 0)).run prog w=.ok (.bool a.isNone) w:=fun a n c w=>Go.Lib.run_eql_slice_nil w _ _ a n c 0 0 underlying98
     have hcb:(convert 98 9 (.slice (some ⟨wr.heap.size,0,none⟩) 1 1)).run prog (wr.alloc (.cells #[.int .u8 38] 5))=.ok (.string ⟨#[38]⟩) (wr.alloc (.cells #[.int .u8 38] 5)):=by
      have h:=run_convert_bytes_back (P:=prog) (wr.alloc (.cells #[.int .u8 38] 5)) 98 9 5 ⟨wr.heap.size,0,none⟩ 1 [38] underlying98 underlying5 underlying9 (by
       intro j hj
       have:j=0:=by simp at hj;omega
       subst this
       exact (Boxed.new wr 5 (.int .u8 38)).cell)
      exact h
     obtain ⟨i0,hi,hz0,hz1,hz2⟩:=info_parts infoStr
     gi_wp2_with (gi_at_builtin;refine wpListIn_append_own _ rfl _ _ 39 rfl w.heap.size 9 i0 (.string ⟨#[]⟩) 1 16 underlying39 hi hz0 hz1 hz2 rfl (by decide) tv 2 _ rfl ((b4.alloc _).alloc _) ⟨wr.heap.size+1,0,none⟩ 1 1 [.string ⟨#[38]⟩] rfl rfl ?_ ?_ (by decide) (by decide) ?_ ?_)
     ·intro j u hu
      rcases j with _ | j
      ·cases hu
       have bx:=Boxed.new (wr.alloc (.cells #[.int .u8 38] 5)) 9 (.string ⟨#[38]⟩)
       rw [World.size_alloc] at bx
       exact bx.cell
      ·simp at hu
     ·intro u hu
      rw [List.mem_singleton.1 hu];rfl
     ·have:=b7.size
      simp;omega
     intro v' W3 hown3 hgr3 hne3
     obtain ⟨tb,tcap,rfl⟩:=ownsRow_succ hown3
     obtain ⟨g3,hb3,hne',hB3⟩:=grow_step w wr W3 2 2 C tv _ _ _ _ _ b1 b4 b7 hgr3 hown3
     have d256:W3.cell? ⟨w.heap.size+1,256,none⟩=some tv:=by rw [cell_blk g3];exact b3
     have f256:W3.frozen? ⟨w.heap.size+1,256,none⟩=false:=by simp [World.frozen?,g3]
     have hcv:∀ (s:ByteArray) (w:World),(convert 9 98 (.string s)).run prog w=.ok (.slice (some ⟨w.heap.size,0,none⟩) s.size (grownCap w s.size 0 5)) (Go.Lib.bytesWorld w 5 s):=fun s w=>Go.Lib.run_convert_string_bytes w _ _ _ s underlying9 underlying98 underlying5
     have hltb:w.heap.size+1 < W3.heap.size:=(Array.getElem?_eq_some_iff.1 g3).1
     have g4:(W3.setCell ⟨w.heap.size+1,256,none⟩ (.slice (some ⟨tb,0,none⟩) 3 tcap)).heap[w.heap.size+1]?=some (.cells (C.setIfInBounds 256 (.slice (some ⟨tb,0,none⟩) 3 tcap)) 240 (0,0)):=by
      show (W3.heap.modify (w.heap.size+1) _)[w.heap.size+1]?=_
      rw [Array.getElem?_modify,if_pos rfl,g3];rfl
     have hs4:(W3.setCell ⟨w.heap.size+1,256,none⟩ (.slice (some ⟨tb,0,none⟩) 3 tcap)).heap.size=W3.heap.size:=by simp
     have g5:(Go.Lib.bytesWorld (W3.setCell ⟨w.heap.size+1,256,none⟩ (.slice (some ⟨tb,0,none⟩) 3 tcap)) 5 ⟨#[38,97,109,112,59]⟩).heap[w.heap.size+1]?=some (.cells (C.setIfInBounds 256 (.slice (some ⟨tb,0,none⟩) 3 tcap)) 240 (0,0)):=by
      rw [Go.Lib.bytesWorld_at_old _ _ _ _ (by rw [hs4];exact hltb)];exact g4
     have d62:(Go.Lib.bytesWorld (W3.setCell ⟨w.heap.size+1,256,none⟩ (.slice (some ⟨tb,0,none⟩) 3 tcap)) 5 ⟨#[38,97,109,112,59]⟩).cell? ⟨w.heap.size+1,38,none⟩=some (.slice none 0 0):=by
      rw [cell_blk g5,Array.getElem?_setIfInBounds_ne (by omega)];exact b6 38 (by omega)
     have f62:(Go.Lib.bytesWorld (W3.setCell ⟨w.heap.size+1,256,none⟩ (.slice (some ⟨tb,0,none⟩) 3 tcap)) 5 ⟨#[38,97,109,112,59]⟩).frozen? ⟨w.heap.size+1,38,none⟩=false:=by simp [World.frozen?,g5]
     gi_wp2
     go_roundw
     case rel =>
      exact ⟨3,by omega,by simp,bst_step w wr W3 2 38 C tv _ [38,97,109,112,59] _ b2 b6 g3 hb3 hown3 hne' hB3 (by omega) rfl (fun c hc=>by simp [repK,hc])⟩
     case measure=>simp [intOf]
    | 3,_ =>
     gi_wp2
     go_ret
     exact ⟨rfl,hB⟩
theorem once_facts (w W:World) (r ob cap:Nat) (a0 a1 a2:Value) (hB:BSt w 3 W) (hrb:w.heap[r]?=some (.cells #[a0,a1,a2,.nilIface,.slice (some ⟨ob,0,none⟩) 6 cap] 204 (0,0))) :
  W.cell? ⟨r,3,none⟩=some .nilIface∧W.frozen? ⟨r,3,none⟩=false∧W.cell? ⟨r,4,none⟩=some (.slice (some ⟨ob,0,none⟩) 6 cap)∧W.frozen? ⟨r,4,none⟩=false:=by
 have hlt:r < w.heap.size:=(Array.getElem?_eq_some_iff.1 hrb).1
 obtain ⟨tv,C,b1,b2,b3,b4,b5,b6,b7⟩:=hB
 have g1:W.heap[r]?=some (.cells #[a0,a1,a2,.nilIface,.slice (some ⟨ob,0,none⟩) 6 cap] 204 (0,0)):=(b7.block r hlt).trans hrb
 exact ⟨by rw [cell_blk g1];rfl,by simp [World.frozen?,g1],by rw [cell_blk g1];rfl,by simp [World.frozen?,g1]⟩
set_option maxRecDepth 100000 in
set_option maxHeartbeats 2000000 in
theorem buildOnce_in (r ob cap:Nat) (a0 a1 a2:Value) (w:World) (hob:ob < w.heap.size) (hrb:w.heap[r]?=some (.cells #[a0,a1,a2,.nilIface,.slice (some ⟨ob,0,none⟩) 6 cap] 204 (0,0)))
  (h0:w.cell? ⟨ob,0,none⟩=some (.string ⟨#[38]⟩)) (h1:w.cell? ⟨ob,1,none⟩=some (.string ⟨#[38,97,109,112,59]⟩)) (h2:w.cell? ⟨ob,2,none⟩=some (.string ⟨#[60]⟩)) (h3:w.cell? ⟨ob,3,none⟩=some (.string ⟨#[38,108,116,59]⟩))
  (h4:w.cell? ⟨ob,4,none⟩=some (.string ⟨#[62]⟩)) (h5:w.cell? ⟨ob,5,none⟩=some (.string ⟨#[38,103,116,59]⟩)) :
  CallsIn Fence.wide 4 prog 224 #[.pointer (some ⟨r,0,none⟩)] w fun e w'=>e=.returned (.tuple #[])∧∃ W,BSt w 3 W∧w'=(W.setCell ⟨r,3,none⟩ (.iface 241 (.pointer (some ⟨w.heap.size+1,0,none⟩)))).setCell ⟨r,4,none⟩ (.slice none 0 0):=by
 have hlt:r < w.heap.size:=(Array.getElem?_eq_some_iff.1 hrb).1
 have hr4:w.cell? ⟨r,4,none⟩=some (.slice (some ⟨ob,0,none⟩) 6 cap):=by rw [cell_blk hrb];rfl
 refine callsIn_of_wp func224 rfl trivial ?_ rfl
 simp only [ntmps224,List.size_toArray,List.length_cons,List.length_nil,Nat.reduceAdd,Nat.reduceSub,Array.replicate_succ,Array.replicate_zero,List.push_toArray,List.append_toArray,List.nil_append,List.cons_append]
 gi_wp2_with (refine ⟨trivial,?_⟩;gi_at_call 247;refine (build_in r ob cap w hob hr4 h0 h1 h2 h3 h4 h5).mono ?_;rintro e W ⟨rfl,hB⟩;obtain ⟨c3,f3,c4,f4⟩:=once_facts w W r ob cap a0 a1 a2 hB hrb)
 go_end0
 exact ⟨rfl,W,hB,rfl⟩
def RepQ (r:Nat) (w w2:World):Prop:=∃ W,BSt w 3 W∧w2=(W.setCell ⟨r,3,none⟩ (.iface 241 (.pointer (some ⟨w.heap.size+1,0,none⟩)))).setCell ⟨r,4,none⟩ (.slice none 0 0)
theorem rep_do (r ob cap:Nat) (w:World) (hob:ob < w.heap.size) (hne:ob≠r) (hrb:w.heap[r]?=some (.cells #[.int .u32 0,.int .i32 0,.int .u32 0,.nilIface,.slice (some ⟨ob,0,none⟩) 6 cap] 204 (0,0))) (hc:StrsAt w ob rplL) :
  Calls prog 223 #[.pointer (some ⟨r,0,none⟩),.func (.func 224) #[.pointer (some ⟨r,0,none⟩)] #[]] w fun e w'=>e=.returned (.tuple #[])∧∃ w2,RepQ r (w.setCell ⟨r,1,none⟩ (.int .i32 1)) w2∧w'=(w2.drew.setCell ⟨r,0,none⟩ (.int .u32 1)).setCell ⟨r,1,none⟩ (.int .i32 0):=by
 have hlt:r < w.heap.size:=(Array.getElem?_eq_some_iff.1 hrb).1
 have hs1:(w.setCell ⟨r,1,none⟩ (.int .i32 1)).heap.size=w.heap.size:=by simp
 have g1:=setCell_at w r 1 (.int .i32 1) _ _ _ hrb
 have hc1:StrsAt (w.setCell ⟨r,1,none⟩ (.int .i32 1)) ob rplL:=fun j s hj=>by
  rw [World.cell?_setCell_other _ _ _ _ (by intro e;exact hne (by have:=congrArg Addr.block e;simp at this;exact this.symm))]
  exact hc j s hj
 refine once_do r 0 ⟨r,0,none⟩ (RepQ r (w.setCell ⟨r,1,none⟩ (.int .i32 1))) w (by rw [cell_blk hrb];rfl) (by rw [cell_blk hrb];rfl) (by simp [World.frozen?,hrb]) ?_ ?_
 ·exact callsIn_wide.1 (buildOnce_in r ob cap _ _ _ (w.setCell ⟨r,1,none⟩ (.int .i32 1)) (by rw [hs1];exact hob) g1 (hc1 0 _ rfl) (hc1 1 _ rfl) (hc1 2 _ rfl) (hc1 3 _ rfl) (hc1 4 _ rfl) (hc1 5 _ rfl))
 ·rintro w' ⟨W,hB,rfl⟩
  obtain ⟨tv,C,b1,b2,b3,b4,b5,b6,b7⟩:=hB
  have g2:=(b7.block r (by rw [hs1];exact hlt)).trans g1
  have g3:=setCell_at W r 3 (.iface 241 (.pointer (some ⟨(w.setCell ⟨r,1,none⟩ (.int .i32 1)).heap.size+1,0,none⟩))) _ _ _ g2
  have g4:=setCell_at _ r 4 (.slice none 0 0) _ _ _ g3
  exact ⟨by rw [cell_blk g4];rfl,by rw [cell_blk g4];rfl,frozen_blk g4 (by intro k _ h;omega) (by simp),frozen_blk g4 (by intro k _ h;omega) (by simp)⟩
end Go.Ab
