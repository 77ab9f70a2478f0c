import Derived.Test.YtjnachnjfdgpgaaGreatDoorPlBld
import Derived.Test.YtjnachnjfdgpgaaGreatDoorFnTp
import Derived.RangeFuncNested
import Derived.RangeFuncBound
import Derived.RangeFuncCalls
import Derived.RangeFuncLeaves
import Derived.RangeFuncBox
import Derived.Shelf.Abstract
import Derived.Shelf.RegionOpen
import Derived.WalkKit
import Derived.OwnWalkIn
import Derived.TacticsInMore
import Derived.LoopNIn
import Derived.LoopIn
set_option linter.all false
set_option maxRecDepth 20000
set_option maxHeartbeats 1000000
namespace Go.Ab
open Go Go.Proofs.Tryz
open Go.RowKit Go.Shelf
noncomputable def sp_closeAt:Spec:=⟨[.sl .opn,.sc],[.rd,.rd],true,fun
 | [.dat ⟨.opn,st⟩,.str m]=>some (some (st.length≤1073741824),.int .i64 ((closN st m st.length:Nat) - 1:Int),[])
 | _=>none⟩
@[push_cast] theorem sp_closeAt_s:sp_closeAt.ps=[.sl .opn,.sc]∧sp_closeAt.modes=[.rd,.rd]∧sp_closeAt.pure=true:=⟨rfl,rfl,rfl⟩
@[push_cast] theorem sp_closeAt_run (st:List Opn) (m:Str):sp_closeAt.run [.dat ⟨.opn,st⟩,.str m]=some (some (st.length≤1073741824),.int .i64 ((closN st m st.length:Nat) - 1:Int),[]):=rfl
attribute [local go_sem] Oper.semAt_some
def opV (o:Opn):Value:=.agg #[sv o.name,.int .i64 o.space]
def bwd (zs:List Opn) (k:Nat):List (Nat × Opn):=(List.range k).map fun j=>(zs.length - 1 - j,zs.getD (zs.length - 1 - j) opnD)
theorem bwd_succ (zs:List Opn) (k:Nat):bwd zs (k+1)=bwd zs k++[(zs.length - 1 - k,zs.getD (zs.length - 1 - k) opnD)]:=by simp [bwd,List.range_succ]
theorem bwd_len (zs:List Opn) (k:Nat):(bwd zs k).length=k:=by simp [bwd]
def OpnAt (W:World) (b off:Nat) (zs:List Opn):Prop:=∀ j,j < zs.length→W.cell? ⟨b,off+j * 2,none⟩=some (sv (zs.getD j opnD).name)∧W.cell? ⟨b,off+j * 2+1,none⟩=some (.int .i64 (zs.getD j opnD).space)
set_option maxRecDepth 100000 in
set_option maxHeartbeats 2000000 in
theorem back1_in (F:Fence) (n:Nat) (h7:F.fn 260) (hro:F.round=none) (hn:1≤n) (l Bs n₀ b off cap:Nat) (zs:List Opn) (hreach:zs.length≤1073741824) (hb:b < n₀) (J Jx:List (Nat × Opn)→World→Prop)
  (hY:∀ pre x W,J pre W→pre.length < zs.length→YieldAt F (n - 1) prog l #[.int .i64 (x.1:Int),opV x.2] W fun e W' =>
   (e=.returned (.bool true)∧J (pre++[x]) W'∧Below n₀ W W')∨(e=.returned (.bool false)∧Jx (pre++[x]) W'))
  (W:World) (hBs:W.cell? ⟨Bs,0,none⟩=some (.slice (some ⟨b,off,none⟩) zs.length cap)) (hBn:Bs < n₀) (hc:OpnAt W b off zs) (h0:J [] W) :
  CallsIn F n prog 260 #[.func (.yield l) #[] #[],.pointer (some ⟨Bs,0,none⟩)] W fun e W'=>(∃ v,e=.returned v) ∧
   ((∃ ys,ys=bwd zs zs.length∧J ys W')∨(∃ pre,(∃ k,k≤zs.length∧pre=bwd zs k)∧Jx pre W')):=by
 refine callsIn_of_wp func260 rfl h7 ?_ hro
 simp only [ntmps260,List.size_toArray,List.length_cons,List.length_nil,Nat.reduceAdd,Nat.reduceSub,Array.replicate_succ,Array.replicate_zero,List.push_toArray,List.append_toArray,List.nil_append,List.cons_append]
 gi_wp2
 gi_loopw [3] (fun i wr=>∃ k:Nat,k≤zs.length∧i=.int .i64 ((zs.length:Int) - 1 - k)∧J (bwd zs k) wr∧Below n₀ W wr)
  (fun i _=>(intOf i+1).toNat)
 case atStart=>exact ⟨0,Nat.zero_le _,by simp,h0,Below.refl _ _⟩
 case round =>
  obtain ⟨k,hk,rfl,hJs,hnx⟩:=hrel
  by_cases hlt:k < zs.length
  ·obtain ⟨fn,tmps,assign,body,hy,hR⟩:=hY _ (zs.length - 1 - k,zs.getD (zs.length - 1 - k) opnD) wr hJs (by rw [bwd_len];exact hlt)
   dsimp only at hy
   have hcx:=hc (zs.length - 1 - k) (by omega)
   have hcx1:=(hnx.cell (p:=⟨b,off+(zs.length - 1 - k) * 2,none⟩) hb).trans hcx.1
   have hcx2:=(hnx.cell (p:=⟨b,off+(zs.length - 1 - k) * 2+1,none⟩) hb).trans hcx.2
   have hbs:=(hnx.cell (p:=⟨Bs,0,none⟩) hBn).trans hBs
   simp only [opV,List.getD_eq_getElem?_getD,show ((zs.length - 1 - k:Nat):Int)=(zs.length:Int) - 1 - k by omega] at hy
   gi_wp2
   refine hR.mono ?_
   rintro e W3 (⟨rfl,hJ3,hk3⟩ | ⟨rfl,hJx3⟩)
   ·gi_wp2
    go_roundw
    case rel=>exact ⟨k+1,by omega,by simp;omega,by rw [bwd_succ];exact hJ3,hnx.trans hk3⟩
    case measure=>simp [intOf];omega
   ·gi_wp2
    refine bodyPost_ret (results_none rfl _ _ _) rfl ?_
    exact ⟨⟨_,rfl⟩,.inr ⟨_,⟨k+1,by omega,(bwd_succ _ _).symm⟩,hJx3⟩⟩
  ·obtain rfl:k=zs.length:=by omega
   gi_wp2
   go_end0
   exact ⟨⟨_,rfl⟩,.inl ⟨_,rfl,hJs⟩⟩
theorem back1_nil_in (F:Fence) (n:Nat) (h7:F.fn 260) (hro:F.round=none) (l Bs cap:Nat) (A:Option Addr) (J:List (Nat × Opn)→World→Prop) (W:World) (hBs:W.cell? ⟨Bs,0,none⟩=some (.slice A 0 cap)) (h0:J [] W) :
  CallsIn F n prog 260 #[.func (.yield l) #[] #[],.pointer (some ⟨Bs,0,none⟩)] W fun e W'=>(∃ v,e=.returned v)∧J [] W':=by
 refine callsIn_of_wp func260 rfl h7 ?_ hro
 simp only [ntmps260,List.size_toArray,List.length_cons,List.length_nil,Nat.reduceAdd,Nat.reduceSub,Array.replicate_succ,Array.replicate_zero,List.push_toArray,List.append_toArray,List.nil_append,List.cons_append]
 gi_wp2
 gi_loopw [3] (fun i wr=>i=.int .i64 (-1)∧J [] wr) (fun _ _=>0)
 case atStart=>exact ⟨rfl,h0⟩
 case round =>
  obtain ⟨rfl,hJs⟩:=hrel
  gi_wp2
  go_end0
  exact ⟨⟨_,rfl⟩,hJs⟩
theorem back_in (F:Fence) (n:Nat) (h5:F.fn 243) (hro:F.round=none) (a:Option Addr) (len cap:Nat) (w:World) :
  CallsIn F n prog 243 #[.slice a len cap] w fun e w'=>e=.returned (.func (.func 260) #[] #[.pointer (some ⟨w.heap.size,0,none⟩)])∧w'=w.alloc (.cells #[.slice a len cap] 78):=by
 refine callsIn_of_wp func243 rfl h5 ?_ hro
 simp only [ntmps243,List.size_toArray,List.length_cons,List.length_nil,Nat.reduceAdd,Nat.reduceSub,Array.replicate_succ,Array.replicate_zero,List.push_toArray,List.append_toArray,List.nil_append,List.cons_append]
 gi_wp2
 go_ret
 exact ⟨rfl,rfl⟩
def Opns (n₀:Nat) (W:World) (sv:Value) (zs:List Opn):Prop :=
 (zs=[]∧∃ A cap,sv=.slice A 0 cap)∨∃ b off cap,sv=.slice (some ⟨b,off,none⟩) zs.length cap∧b < n₀∧OpnAt W b off zs
theorem Opns.mono {n₀ n₁:Nat} {W:World} {v:Value} {zs:List Opn} (hn:n₀≤n₁):Opns n₀ W v zs→Opns n₁ W v zs
 | .inl e=>.inl e
 | .inr ⟨b,off,cap,e,hb,hc⟩=>.inr ⟨b,off,cap,e,Nat.lt_of_lt_of_le hb hn,hc⟩
theorem Opns.below {n₀:Nat} {A B:World} (h:Below n₀ A B) {sv:Value} {zs:List Opn}:Opns n₀ A sv zs→Opns n₀ B sv zs
 | .inl e=>.inl e
 | .inr ⟨b,off,cap,e,hb,hc⟩=>.inr ⟨b,off,cap,e,hb,fun j hj=>⟨(h.cell (p:=⟨b,off+j * 2,none⟩) hb).trans (hc j hj).1,(h.cell (p:=⟨b,off+j * 2+1,none⟩) hb).trans (hc j hj).2⟩⟩
theorem back_stops (F:Fence) (n:Nat) (h7:F.fn 260) (hro:F.round=none) (hn:1≤n) (Bs n₀:Nat) (v:Value) (zs:List Opn) (hreach:zs.length≤1073741824) (w:World) (hBs:Bs < n₀) (hn₀:n₀≤w.heap.size)
  (hc:w.cell? ⟨Bs,0,none⟩=some v) (hI:Opns n₀ w v zs) :
  SeqStopsK F n prog 260 #[.pointer (some ⟨Bs,0,none⟩)] (fun x:Nat × Opn=>#[Value.int .i64 (x.1:Int),Value.agg #[sv x.2.name,.int .i64 x.2.space]]) (Below n₀) (fun ys=>ys=bwd zs zs.length)
   (fun pre=>∃ k,k≤zs.length∧pre=bwd zs k) zs.length w:=fun l J Jx W hW _ _ hY h0=>by
 have hc':=(hW.cell (p:=⟨Bs,0,none⟩) (Nat.lt_of_lt_of_le hBs hn₀)).trans hc
 rcases hI.below (hW.mono hn₀) with ⟨rfl,A,cap,rfl⟩ | ⟨b,off,cap,rfl,hb,hcs⟩
 ·exact (back1_nil_in F n h7 hro l Bs cap A J W hc' h0).mono fun e W' ⟨he,hj⟩=>⟨he,.inl ⟨_,rfl,hj⟩⟩
 ·exact back1_in F n h7 hro hn l Bs n₀ b off cap zs hreach hb J Jx hY W hc' hBs hcs h0
theorem closN_bwd (zs:List Opn) (m:Str):∀ k,k≤zs.length→(∀ x∈bwd zs k,x.2.name≠m)→closN zs m zs.length=closN zs m (zs.length - k)
 | 0,_,_=>rfl
 | k+1,hk,h=>by
  rw [bwd_succ] at h
  rw [closN_bwd zs m k (by omega) fun x hx=>h x (List.mem_append_left _ hx)]
  have hx:=h _ (List.mem_append_right _ (List.mem_singleton.2 rfl))
  simp only at hx
  obtain ⟨j,hj⟩:∃ j,zs.length - k=j+1:=⟨zs.length - k - 1,by omega⟩
  rw [hj,closN,show zs.length - (k+1)=j by omega]
  rw [show zs.length - 1 - k=j by omega] at hx
  rw [if_neg hx]
theorem closN_hit (zs:List Opn) (m:Str) (k:Nat) (hk:k < zs.length) (h:∀ x∈bwd zs k,x.2.name≠m) (hm:(zs.getD (zs.length - 1 - k) opnD).name=m):closN zs m zs.length=zs.length - 1 - k+1:=by
 rw [closN_bwd zs m k (by omega) h]
 obtain ⟨j,hj⟩:∃ j,zs.length - k=j+1:=⟨zs.length - k - 1,by omega⟩
 have e:zs.length - 1 - k=j:=by omega
 rw [e] at hm ⊢
 rw [hj,closN,if_pos hm]
set_option maxRecDepth 100000 in
set_option maxHeartbeats 2000000 in
theorem closeAt_in (F:Fence) (n:Nat) (h1:F.fn 205) (h5:F.fn 243) (h7:F.fn 260) (hro:F.round=none) (hn:3≤n) (a:Option Addr) (len cap:Nat) (zs:List Opn) (hreach:zs.length≤1073741824) (m:Str) (w:World) (hI:Opns w.heap.size w (.slice a len cap) zs) :
  CallsIn F n prog 205 #[.slice a len cap,sv m] w fun e W'=>e=.returned (.int .i64 ((closN zs m zs.length:Nat) - 1:Int))∧Below w.heap.size w W':=by
 have hn1:1≤n:=by omega
 refine callsIn_of_wp_marks func205 rfl h1 ?_ hro
 simp only [ntmps205,List.size_toArray,List.length_cons,List.length_nil,Nat.reduceAdd,Nat.reduceSub,Array.replicate_succ,Array.replicate_zero,List.push_toArray,List.append_toArray,List.nil_append,List.cons_append]
 gi_wp2_with (gi_at_call 243;refine (back_in F (n - 1) h5 hro _ _ _ _).mono ?_;rintro e w' ⟨rfl,rfl⟩)
 have bM:=((Boxed.new w 9 (sv m)).alloc (.cells #[.int .i64 0] 3)).alloc (.cells #[.slice a len cap] 78)
 have bR:=(Boxed.new (w.alloc (.cells #[sv m] 9)) 3 (.int .i64 0)).alloc (.cells #[.slice a len cap] 78)
 have bS:=Boxed.new ((w.alloc (.cells #[sv m] 9)).alloc (.cells #[.int .i64 0] 3)) 78 (.slice a len cap)
 simp only [World.size_alloc] at bR bS
 have hB0:Below w.heap.size w (((w.alloc (.cells #[sv m] 9)).alloc (.cells #[.int .i64 0] 3)).alloc (.cells #[.slice a len cap] 78)):=(((Below.refl _ w).alloc (Nat.le_refl _) _).alloc (by simp) _).alloc (by simp;omega) _
 have hsz:(((w.alloc (.cells #[sv m] 9)).alloc (.cells #[.int .i64 0] 3)).alloc (.cells #[.slice a len cap] 78)).heap.size=w.heap.size+3:=by simp
 have hI0:=(hI.below hB0).mono (n₁:=w.heap.size+3) (by omega)
 obtain ⟨W0,hW0⟩:∃ W0,((w.alloc (.cells #[sv m] 9)).alloc (.cells #[.int .i64 0] 3)).alloc (.cells #[.slice a len cap] 78)=W0:=⟨_,rfl⟩
 rw [hW0] at bM bR bS hB0 hsz hI0 ⊢
 clear hW0
 refine wpIn_rangeFunc_ownH hro hn1 (gf:=260) (lb:=#[.pointer (some ⟨w.heap.size+1+1,0,none⟩)]) rfl h7 (Go.Proofs.enters_of func260 (by kernel_rfl) rfl)
  (back_stops F (n - 1) h7 hro (by omega) (w.heap.size+1+1) (w.heap.size+3) _ zs hreach W0 (by omega) (by omega) bS.cell hI0) belowK_t (belowK_b (by omega)) (Below.refl _ _) (fun _=>rfl)
  (fun pre W=>(((∀ x∈pre,x.2.name≠m)∧Boxed W (w.heap.size+1) 3 (.int .i64 0))∧Boxed W w.heap.size 9 (sv m))∧Below (w.heap.size+3) W0 W)
  (fun c pre W=>(((c=.ret∧pre≠[])∧(∀ ini last,pre=ini++[last]→(∀ x∈ini,x.2.name≠m)∧last.2.name=m∧Boxed W (w.heap.size+1) 3 (.int .i64 (last.1:Int))))∧Below w.heap.size w W))
  (OwnFrom.and (OwnFrom.and (OwnFrom.and (ownFrom_pure _ _) (Own.from (boxed_own _ _ _) _)) (Own.from (boxed_own _ _ _) _)) (ownFrom_below (by omega) (by omega)))
  (fun c=>OwnFrom.and (OwnFrom.and (ownFrom_pure _ _) (Own.from (by intro s A B row hs hg hr ini last e;exact ⟨(hs ini last e).1,(hs ini last e).2.1,boxed_own (w.heap.size+1) 3 (fun (_:Unit)=>Value.int .i64 (last.1:Int)) () A B row (hs ini last e).2.2 hg hr⟩) _)) (ownFrom_below (Nat.le_refl _) (by omega)))
  ⟨⟨⟨by simp,bR⟩,bM⟩,Below.refl _ _⟩
  (fun x a' W=>∃ Bx,W.cell? ⟨Bx,0,none⟩=some (sv x.2.name)∧a'={ tmps:=#[.slice a len cap,sv m,undef,.pointer (some ⟨w.heap.size,0,none⟩),.pointer (some ⟨w.heap.size+1,0,none⟩),.int .i64 (x.1:Int),.pointer (some ⟨Bx,0,none⟩),.slice a len cap,.func (.func 260) #[] #[.pointer (some ⟨w.heap.size+1+1,0,none⟩)],Value.int .i64 (x.1:Int),.agg #[sv x.2.name,.int .i64 x.2.space],undef,undef,undef,undef,undef],defers:=[] })
  (fun x a' _ X Y row hs hg hr=>by obtain ⟨Bx,e2,e3⟩:=hs;exact ⟨Bx,cell_kept e2 hg (fun r e=>(hr r e).2),e3⟩)
  ?assign ?body ?done ?stop
 case assign =>
  rintro l pre x W K ⟨⟨⟨hp,bR1⟩,bM1⟩,hB1⟩ hK
  gi_wp2
  have hs1:w.heap.size+3≤W.heap.size:=by have:=hB1.size;omega
  refine hK _ _ ((KeepsOthers.alloc _ _).from _) ((Below.refl _ W).alloc hs1 _) ⟨⟨⟨hp,bR1.alloc _⟩,bM1.alloc _⟩,hB1.alloc hs1 _⟩ ⟨W.heap.size,?_,rfl⟩
  have hn:=World.alloc_heap_new W (.cells #[Value.string ⟨x.2.name.toArray⟩,.int .i64 x.2.space] 132)
  simp only [World.cell?]
  rw [hn]
  rfl
 case body =>
  rintro l pre x a' W hl ⟨r,hr⟩ ⟨⟨⟨hp,bR1⟩,bM1⟩,hB1⟩ ⟨Bx,bX,rfl⟩ hlt
  have cM:=bM1.cell
  have cR:=bR1.cell
  have fR:=bR1.frozen
  gi_wp2
  ·rename_i hxy
   have hxm:=eq_of_beq hxy
   refine ⟨(KeepsOthers.setCell _ _ _).from _,⟨⟨rfl,by simp⟩,fun ini last e=>?_⟩,(hB0.trans (hB1.mono (by omega))).setCell (p:=⟨w.heap.size+1,0,none⟩) (by simp) _⟩
   obtain ⟨e1,e5⟩:=List.append_inj' e rfl
   cases e5
   rw [← e1]
   exact ⟨hp,hxm,bR1.set _⟩
  ·rename_i hxy
   exact ⟨KeepsFrom.refl _ _,Below.refl _ _,⟨⟨fun z hz=>(List.mem_append.1 hz).elim (hp z) (fun e e'=>by simp at e;subst e;subst e';simp at hxy),bR1⟩,bM1⟩,hB1⟩
 case done =>
  rintro D ys W hD rfl ⟨⟨⟨hp,bR1⟩,bM1⟩,hB1⟩ hK
  have cR:=bR1.cell
  have fR:=bR1.frozen
  gi_wp2
  have hK':=(KeepsOthers.setCell W ⟨w.heap.size+1,0,none⟩ (.int .i64 (-1))).same D _ hK rfl
  refine ⟨by simp,.inl ⟨_,_,rfl,run_takeDeferred hK',?_⟩⟩
  have hc5:=cell_kept (bR1.set (.int .i64 (-1))).cell (grownBy_putObj' _ D (.deferred none)) (fun r e=>by cases e;exact ⟨_,hK',rfl⟩)
  refine ⟨.int .i64 (-1),?_,by rw [closN_bwd zs m zs.length (Nat.le_refl _) hp,Nat.sub_self];rfl,((hB0.trans (hB1.mono (by omega))).setCell (p:=⟨w.heap.size+1,0,none⟩) (by simp) _).trans (belowK_b (w:=w) (Nat.le_refl _) _ D _ _ (by omega) hK' rfl rfl)⟩
  simp [results,f205,go_sem,hc5]
 case stop =>
  rintro D c pre W hD ⟨k,hk,rfl⟩ ⟨⟨⟨rfl,hne⟩,hx⟩,hB1⟩ hK
  obtain ⟨k,rfl⟩:∃ j,k=j+1:=by
   cases k with
   | zero=>exact absurd rfl hne
   | succ j=>exact ⟨j,rfl⟩
  obtain ⟨x1,x2,bR1⟩:=hx _ _ (bwd_succ zs k)
  gi_wp2
  refine ⟨by simp,.inl ⟨_,_,rfl,run_takeDeferred hK,?_⟩⟩
  have hc5:=cell_kept bR1.cell (grownBy_putObj' _ D (.deferred none)) (fun r e=>by cases e;exact ⟨_,hK,rfl⟩)
  refine ⟨.int .i64 ((zs.length - 1 - k:Nat):Int),?_,by rw [closN_hit zs m k (by omega) x1 x2];congr 2;omega,hB1.trans (belowK_b (w:=w) (Nat.le_refl _) W D _ _ (by omega) hK rfl rfl)⟩
  simp [results,f205,go_sem,hc5]
theorem rep_opns {w:World} {R:Nat→Prop} {l:List Opn} {v:Value} (h:Rep w R (dataCD ety0 ⟨.opn,l⟩) v) (hR:∀ b,R b→b < w.heap.size):∃ A cap,v=.slice A l.length cap∧Opns w.heap.size w v l:=by
 have e:dataCD ety0 ⟨.opn,l⟩=.sl (ety0 .opn) 2 (l.map fun o=>[CD.sc (sv (Opn.name o)),CD.sc (.int .i64 (Opn.space o))]):=rfl
 rw [e] at h
 cases h with
 | sl e n els A cap us hcap hn hc hr =>
  rw [List.length_map] at hcap ⊢
  refine ⟨A,cap,rfl,?_⟩
  by_cases h0:l=[]
  ·subst h0;exact .inl ⟨rfl,A,cap,rfl⟩
  have hget:∀ k,k < l.length→∀ i cd,[CD.sc (sv (Opn.name (l.getD k opnD))),CD.sc (.int .i64 (Opn.space (l.getD k opnD)))][i]?=some cd→(l.map fun o=>[CD.sc (sv (Opn.name o)),CD.sc (.int .i64 (Opn.space o))]).flatten[k * 2+i]?=some cd:=fun k hk i cd hi=>by
   have hi2:i < 2:=(List.getElem?_eq_some_iff.1 hi).1
   refine flatten_get (n:=2) (row:=[CD.sc (sv (Opn.name (l.getD k opnD))),CD.sc (.int .i64 (Opn.space (l.getD k opnD)))]) hn ?_ hi
   rw [List.getElem?_map,List.getElem?_eq_getElem hk];simp [List.getD,hk]
  have hl:0 < l.length:=List.length_pos_iff.2 h0
  obtain ⟨b,o,hA,hRb,_⟩:=hc _ _ (hget 0 hl 0 _ rfl)
  subst hA
  refine .inr ⟨b,o,cap,rfl,hR b hRb,fun j hj=>⟨?_,?_⟩⟩
  ·have h1:=hget j hj 0 _ rfl
   obtain ⟨b',o',hA',_,hcell⟩:=hc _ _ h1
   cases hA'
   have hu:=hr _ _ h1
   generalize us (j * 2+0)=u at hu hcell
   cases hu
   exact hcell
  ·have h1:=hget j hj 1 _ rfl
   obtain ⟨b',o',hA',_,hcell⟩:=hc _ _ h1
   cases hA'
   have hu:=hr _ _ h1
   generalize us (j * 2+1)=u at hu hcell
   cases hu
   exact hcell
theorem c_closeAt:CRow P0 ety0 205 sp_closeAt:=by
 refine ⟨?_,ent_of func205 rfl rfl⟩
 intro args p r outs hrun hq w R vs F hrel hR hFR hFl hG
 simp only [sp_closeAt] at hrun
 split at hrun<;>cases hrun
 rename_i st m
 have hs:=hq _ rfl
 obtain ⟨u,v,rfl,⟨_,h1⟩,⟨_,h2⟩⟩:=args2 hrel
 cases relA_str h2
 obtain ⟨A,cap,rfl,hI⟩:=rep_opns (relA_dat h1) hR
 refine (callsIn_wide.1 (closeAt_in Fence.wide 3 trivial trivial trivial rfl (Nat.le_refl _) A _ cap st hs m w hI)).mono fun e w' h=>?_
 obtain ⟨he,hb⟩:=h
 exact fin_plain (P:=P0) rfl hR he hb fun X=>.int _ _
end Go.Ab
