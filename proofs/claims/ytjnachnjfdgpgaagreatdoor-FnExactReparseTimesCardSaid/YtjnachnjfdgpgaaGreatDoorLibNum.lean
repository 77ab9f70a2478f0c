import Derived.Test.YtjnachnjfdgpgaaGreatDoorPlNum
import Derived.Test.YtjnachnjfdgpgaaGreatDoorEng4
import Derived.Test.YtjnachnjfdgpgaaGreatDoorEng4
import Derived.Test.YtjnachnjfdgpgaaGreatDoorShelf
set_option linter.all false
set_option maxRecDepth 20000
set_option maxHeartbeats 1000000
namespace Go.Ab
open Go Go.Proofs.Tryz
open Go.Lib
theorem below_grow' (w:World) (k:Nat) (os:Array Go.Obj):Go.RowKit.Below w.heap.size w (Go.Sort.grow (w.drewN k) os) :=
 ⟨rfl,rfl,rfl,by simp [Go.Sort.grow,World.drewN],fun b hb=>by
  show (w.heap++os)[b]?=w.heap[b]?
  rw [Array.getElem?_append_left hb]⟩
theorem relV_tup2 {X:Ctx} {a b:AV} {u v:Value} (h:RelV X a u) (k:RelV X b v):RelV X (.tup [a,b]) (.tuple #[u,v]):=.tup _ _ rfl fun j c z hj hz=>by
 match j,hj,hz with
 | 0,hj,hz=>cases hj;cases hz;exact h
 | 1,hj,hz=>cases hj;cases hz;exact k
noncomputable def sp_atoi:Spec:=⟨[.sc],[.rd],true,fun
 | [.str t]=>some (some (t.length≤281474976710656),.tup [.int .i64 (atoiV t),.err (atoiE t)],[])
 | _=>none⟩
@[push_cast] theorem sp_atoi_s:sp_atoi.ps=[.sc]∧sp_atoi.modes=[.rd]∧sp_atoi.pure=true:=⟨rfl,rfl,rfl⟩
@[push_cast] theorem sp_atoi_run (t:Str):sp_atoi.run [.str t]=some (some (t.length≤281474976710656),.tup [.int .i64 (atoiV t),.err (atoiE t)],[]):=rfl
theorem c_atoi:CRow P0 ety0 239 sp_atoi:=by
 refine ⟨?_,ent_of func239 rfl rfl⟩
 intro args p r outs hrun hq w R vs F hrel hR hFR hFl hG
 simp only [sp_atoi] at hrun
 split at hrun<;>cases hrun
 rename_i t
 have hs:=hq _ rfl
 obtain ⟨u,rfl,⟨_,h⟩⟩:=args1 hrel
 cases relA_str h
 have hsz:(⟨t.toArray⟩:ByteArray).size=t.length:=str_size _
 have hcell:∀ {n:String} {ev:Value},w.var? P0 n=some #[ev]→∀ g,P0.globalNamed n=some g→w.cell? ⟨g,0,none⟩=some ev:=fun hv g hg=>by
  have h0:=World.var?_cell hg hv 0;simpa using h0
 cases hA:atoiAll t
 ·rename_i v
  refine (Go.Proofs.Tryz.strconv_Atoi_ok ⟨t.toArray⟩ (by omega) v hA w).mono fun e w' h=>?_
  obtain ⟨he,hw⟩:=h
  have hb:Go.RowKit.Below w.heap.size w w':=by
   rcases hw with rfl | ⟨t,rfl⟩
   ·exact .refl _ _
   ·exact bytesWorld_below _ _ _
  refine fin_plain (P:=P0) rfl hR he hb fun X=>?_
  unfold atoiV atoiE
  rw [hA]
  exact relV_tup2 (.int _ _) (.err _ _ (fun _=>rfl) (fun h=>by cases h))
 ·
  obtain ⟨tp,q,hv⟩:=gi_syn hG
  refine (Go.Proofs.Any.strconv_Atoi_syntax Go.Proofs.Tryz.laysC172 ⟨t.toArray⟩ (by omega) hA (.iface tp q) w (hcell hv _ (by kernel_rfl)) (.inr ⟨_,_,rfl⟩)).mono fun e w' h=>?_
  obtain ⟨N,he,_,_,hb⟩:=h
  refine fin_plain (P:=P0) rfl hR he hb fun X=>?_
  unfold atoiV atoiE
  rw [hA]
  exact relV_tup2 (.int _ _) (.err _ _ (fun h=>by cases h) (fun _=>⟨_,_,rfl⟩))
 ·
  obtain ⟨tp,q,hv⟩:=gi_ran hG
  refine (Go.Proofs.Tryz.strconv_Atoi_range ⟨t.toArray⟩ (by omega) hA (.iface tp q) w (hcell hv _ (by kernel_rfl)) (.inr ⟨_,_,rfl⟩)).mono fun e w' h=>?_
  obtain ⟨N,he,_,_,hb⟩:=h
  refine fin_plain (P:=P0) rfl hR he hb fun X=>?_
  unfold atoiV atoiE
  rw [hA]
  exact relV_tup2 (.int _ _) (.err _ _ (fun h=>by cases h) (fun _=>⟨_,_,rfl⟩))
noncomputable def sp_itoaA:Spec:=⟨[.sc],[.rd],true,fun
 | [.int .i64 n]=>some (some (i64ok n),.str (Lib.itoa n),[])
 | _=>none⟩
@[push_cast] theorem sp_itoaA_s:sp_itoaA.ps=[.sc]∧sp_itoaA.modes=[.rd]∧sp_itoaA.pure=true:=⟨rfl,rfl,rfl⟩
@[push_cast] theorem sp_itoaA_run (n:Int):sp_itoaA.run [.int .i64 n]=some (some (i64ok n),.str (Lib.itoa n),[]):=rfl
theorem c_itoaA:CRow P0 ety0 240 sp_itoaA:=by
 refine ⟨?_,ent_of func240 rfl rfl⟩
 intro args p r outs hrun hq w R vs F hrel hR hFR hFl hG
 simp only [sp_itoaA] at hrun
 split at hrun<;>cases hrun
 rename_i n
 obtain ⟨h0,h1⟩:=hq _ rfl
 obtain ⟨u,rfl,⟨_,h⟩⟩:=args1 hrel
 cases relA_int h
 refine (Go.Proofs.Tryz.strconv_Itoa n h0 h1 w (gi_tab hG)).mono fun e w' h=>?_
 obtain ⟨he,k,os,rfl⟩:=h
 exact fin_plain (P:=P0) rfl hR he (below_grow' w k os) fun X=>.str _
end Go.Ab
