import Derived.Test.YtjnachnjfdgpgaaGreatDoorFnTk
import Derived.Test.YtjnachnjfdgpgaaGreatDoorFnNu
set_option linter.all false
set_option maxRecDepth 20000
set_option maxHeartbeats 1000000
namespace Go.Ab
open Go Go.Proofs.Tryz
open Go.Lib
theorem cut_tw (c:UInt8):∀ s:Str,(Lib.cut s [c]).1=s.takeWhile (fun x=>!decide (x=c))∧(Lib.cut s [c]).2.2=s.contains c
 | []=>by simp [Lib.cut,index]
 | x :: r=>by
  obtain ⟨ih1,ih2⟩:=cut_tw c r
  by_cases hx:x=c
  ·subst hx
   have hix:index (x :: r) [x]=0:=by rw [index];simp [List.isPrefixOf]
   simp [Lib.cut,hix]
  ·have hp:([c]:Str).isPrefixOf (x :: r)=false:=by simp [List.isPrefixOf,Ne.symm hx]
   have hix:index (x :: r) [c]=if index r [c] == -1 then -1 else index r [c]+1:=by rw [index,hp];simp
   rw [List.takeWhile_cons,List.contains_cons]
   have hd:(!decide (x=c))=true:=by simp [hx]
   rw [if_pos hd]
   unfold Lib.cut at ih1 ih2 ⊢
   rw [hix]
   by_cases hm:index r [c]=-1
   ·rw [hm] at ih1 ih2 ⊢
    have hneg:¬ (0:Int)≤-1:=by omega
    simp only [beq_self_eq_true,if_true]
    rw [if_neg hneg] at ih1 ih2 ⊢
    rw [← ih1,← ih2]
    simp [Ne.symm hx]
   ·have hge:=index_ge r [c]
    obtain ⟨j,hj⟩:∃ j:Nat,index r [c]=j:=⟨(index r [c]).toNat,by omega⟩
    rw [hj] at ih1 ih2 ⊢
    have h1:((j:Int) == -1)=false:=by rw [beq_eq_false_iff_ne];omega
    rw [h1]
    simp only [Bool.false_eq_true,if_false]
    rw [if_pos (by omega)] at ih1 ih2 ⊢
    have e:((j:Int)+1).toNat=j+1:=by omega
    rw [← ih1,← ih2,e]
    simp
theorem numE_eq (w:Str) (hl:w.length≤4):numE w=bif (bif bif bif atoiE w then true else !within (atoiV w) 1 126 then true else !decide (itoa (atoiV w)=w) then true else false) then none else some (atoiV w).toNat:=by
 have hE:=numOK_eq w
 have ht:decide ((trimPrefix w [45]).length≤18)=true:=by
  apply decide_eq_true
  unfold trimPrefix
  split
  ·rw [List.length_drop];omega
  ·omega
 rw [ht,Bool.and_true] at hE
 unfold numE
 cases hn:numS w with
 | none =>
  have:numOK w=false:=by unfold numOK;rw [hn];rfl
  rw [this] at hE
  cases h1:atoiE w with
  | true=>rfl
  | false =>
   rw [h1] at hE
   have h2:decide (itoa (atoiV w)=w)=false:=by simpa using hE.symm
   rw [h2]
   cases within (atoiV w) 1 126<;>rfl
 | some n =>
  have hok:numOK w=true:=by unfold numOK;rw [hn];rfl
  have hv:atoiV w=n:=by rw [atoiV_num hok];unfold numV;rw [hn];rfl
  rw [hok] at hE
  have hE:=hE.symm
  rw [Bool.and_eq_true] at hE
  have h1:atoiE w=false:=by simpa using hE.1
  rw [h1,hE.2,hv]
  simp only
  by_cases h:1≤n∧n≤126
  ·rw [if_pos h,show within n 1 126=true by unfold within;rw [decide_eq_true h.1,decide_eq_true h.2];rfl];rfl
  ·rw [if_neg h,show within n 1 126=false by
    unfold within
    rw [Bool.eq_false_iff]
    intro e
    rw [Bool.and_eq_true] at e
    exact h ⟨of_decide_eq_true e.1,of_decide_eq_true e.2⟩];rfl
noncomputable def sp_cutC:Spec:=⟨[.sc,.sc],[.rd,.rd],true,fun
 | [.str s,.str [c]]=>some (some (s.length < 4294967281),.tup [.str (s.takeWhile fun x=>!decide (x=c)),.str (Lib.cut s [c]).2.1,.bool (s.contains c)],[])
 | _=>none⟩
@[push_cast] theorem sp_cutC_s:sp_cutC.ps=[.sc,.sc]∧sp_cutC.modes=[.rd,.rd]∧sp_cutC.pure=true:=⟨rfl,rfl,rfl⟩
@[push_cast] theorem sp_cutC_run (s:Str) (c:UInt8):sp_cutC.run [.str s,.str [c]]=some (some (s.length < 4294967281),.tup [.str (s.takeWhile fun x=>!decide (x=c)),.str (Lib.cut s [c]).2.1,.bool (s.contains c)],[]):=rfl
theorem c_cutC:CRow P0 ety0 238 sp_cutC:=by
 refine ⟨?_,ent_of func238 rfl rfl⟩
 intro args p r outs hrun hq w R vs F hrel hR hFR hFl hG
 simp only [sp_cutC] at hrun
 split at hrun<;>cases hrun
 rename_i s c
 have hs:=hq _ rfl
 obtain ⟨u,v,rfl,⟨_,h1⟩,⟨_,h2⟩⟩:=args2 hrel
 cases relA_str h1
 cases relA_str h2
 obtain ⟨w0,hk0,hw0⟩:=hG
 obtain ⟨m,hm⟩:=Go.Proofs.Tryz.laysM145.s1_3 w0 hk0.1
 refine (Go.Proofs.Tryz.strings_Cut ⟨s.toArray⟩ ⟨[c].toArray⟩ m w (by rw [str_size];omega) (gi_cell hw0 hm)).mono fun e w' h=>?_
 obtain ⟨he,n,rfl⟩:=h
 obtain ⟨e1,e2⟩:=cut_tw c s
 have e3:Lib.cut (⟨s.toArray⟩:ByteArray).data.toList (⟨[c].toArray⟩:ByteArray).data.toList=(s.takeWhile (fun x=>!decide (x=c)),(Lib.cut s [c]).2.1,s.contains c):=by
  show Lib.cut s [c]=_
  rw [← e1,← e2]
 rw [e3] at he
 exact fin_plain (P:=P0) rfl hR he ⟨rfl,rfl,rfl,Nat.le_refl _,fun b _=>rfl⟩ fun X=>.tup _ _ rfl fun j c z hj hz=>by
  match j,hj,hz with
  | 0,hj,hz=>cases hj;cases hz;exact .str _
  | 1,hj,hz=>cases hj;cases hz;exact .str _
  | 2,hj,hz=>cases hj;cases hz;exact .bool _
def escNL:List Str:=[[38,97,109,112,59],[38,108,116,59],[38,103,116,59],[38,113,117,111,116,59]]
def escBL:Str:=[38,60,62,34]
theorem escS_hit {t:Str} {k:Nat} (hk:k < 4) (hb:∀ j,j < k→preS t (escNL.getD j [])=false) (h:preS t (escNL.getD k [])=true):escS t=(escBL.getD k 0,(escNL.getD k []).length):=by
 have h0:=hb 0
 have h1:=hb 1
 have h2:=hb 2
 have:k=0∨k=1∨k=2∨k=3:=by omega
 unfold escS escL
 rcases this with rfl | rfl | rfl | rfl
 ·have h:preS t [38,97,109,112,59]=true:=h
  simp only [List.find?_cons,h];rfl
 ·have h:preS t [38,108,116,59]=true:=h
  have h0:preS t [38,97,109,112,59]=false:=h0 (by omega)
  simp only [List.find?_cons,h,h0];rfl
 ·have h:preS t [38,103,116,59]=true:=h
  have h0:preS t [38,97,109,112,59]=false:=h0 (by omega)
  have h1:preS t [38,108,116,59]=false:=h1 (by omega)
  simp only [List.find?_cons,h,h0,h1];rfl
 ·have h:preS t [38,113,117,111,116,59]=true:=h
  have h0:preS t [38,97,109,112,59]=false:=h0 (by omega)
  have h1:preS t [38,108,116,59]=false:=h1 (by omega)
  have h2:preS t [38,103,116,59]=false:=h2 (by omega)
  simp only [List.find?_cons,h,h0,h1,h2];rfl
theorem escS_miss {t:Str} (hb:∀ j,j < 4→preS t (escNL.getD j [])=false):escS t=if preS t [38,35]=true then escN t else (0,0):=by
 have h0:preS t [38,97,109,112,59]=false:=hb 0 (by omega)
 have h1:preS t [38,108,116,59]=false:=hb 1 (by omega)
 have h2:preS t [38,103,116,59]=false:=hb 2 (by omega)
 have h3:preS t [38,113,117,111,116,59]=false:=hb 3 (by omega)
 unfold escS escL
 simp only [List.find?_cons,h0,h1,h2,h3,List.find?_nil]
noncomputable def sp_esc:Spec:=⟨[.sc],[.rd],true,fun
 | [.str t]=>some (some (t≠[]∧t.length≤1073741824),.tup [.u8 (escS t).1,.int .i64 ((escS t).2:Nat)],[])
 | _=>none⟩
@[push_cast] theorem sp_esc_s:sp_esc.ps=[.sc]∧sp_esc.modes=[.rd]∧sp_esc.pure=true:=⟨rfl,rfl,rfl⟩
@[push_cast] theorem sp_esc_run (t:Str):sp_esc.run [.str t]=some (some (t≠[]∧t.length≤1073741824),.tup [.u8 (escS t).1,.int .i64 ((escS t).2:Nat)],[]):=rfl
noncomputable def e_esc:Env:=mk [(130,sp_preS),(238,sp_cutC),(239,sp_atoi),(47,sp_within),(240,sp_itoaA)] [] [(14,[.frz 13])] [] none
@[push_cast] theorem e_esc_e:MkE e_esc [(130,sp_preS),(238,sp_cutC),(239,sp_atoi),(47,sp_within),(240,sp_itoaA)] [] [(14,[.frz 13])] [] none:=⟨rfl,rfl,rfl,rfl,rfl,rfl,rfl⟩
theorem c_esc:CRow P0 ety0 203 sp_esc:=CRow.of (E:=e_esc) (mkOk (.cons c_hasPre (.cons c_cutC (.cons c_atoi (.cons c_within (.cons c_itoaA (.nil))))))) func203 rfl rfl rfl (by
 intro args p r outs h hq
 simp only [sp_esc] at h;split at h<;>cases h
 rename_i t
 obtain ⟨hne,hl⟩:=hq _ rfl
 refine Body.intro (rs:=[.tmp 2,.tmp 3]) rfl rfl rfl ?_
 apply vc_run 1000 (stop:=false) rfl;simp only [push_cast,simprocAttr]
 refine Run.loop [2,3,15] [0,13,14] [] rfl (fun n vs bs=>∃ k:Nat,vs=[.u8 0,.int .i64 0,.int .i64 k]∧bs=[]∧k≤4∧(∀ j,j < k→preS t (escNL.getD j [])=false)∧n=4 - k) 4 ?_ ?_
 ·simp only [push_cast,simprocAttr]
  exact ⟨0,rfl,by omega,fun j h=>by omega,rfl⟩
 rintro n vs bs ⟨k,rfl,rfl,hk,hb,rfl⟩
 simp only [push_cast,simprocAttr]
 apply vc_run 1000 (stop:=false) rfl;simp only [push_cast,simprocAttr]
 have hNL:∀ x:Int,gd [[38,97,109,112,59],[38,108,116,59],[38,103,116,59],[38,113,117,111,116,59]] ([]:Str) x=gd escNL [] x:=fun _=>rfl
 have hBL:∀ x:Int,byteAt [38,60,62,34] x=byteAt escBL x:=fun _=>rfl
 simp only [hNL,hBL,gd_nat,byteAt_k]
 refine ⟨fun h=>?_,fun h=>?_⟩
 ·have hk4:k < 4:=by have:=of_decide_eq_true h;omega
  have hnl:(escNL.getD k []).length≤6:=by
   have:k=0∨k=1∨k=2∨k=3:=by omega
   rcases this with rfl | rfl | rfl | rfl<;>decide
  refine ⟨by omega,⟨by omega,by omega⟩,fun hy=>⟨by omega,?_⟩,fun hn=>⟨by constructor<;>omega,_,by omega,k+1,rfl,by omega,fun j hj=>?_,rfl⟩⟩
  ·rw [escS_hit hk4 hb hy]
  ·rcases Nat.lt_or_eq_of_le (Nat.le_of_lt_succ hj) with h' | rfl
   ·exact hb j h'
   ·exact hn
 ·have hk4:k=4:=by have:=of_decide_eq_false h;omega
  subst hk4
  rw [escS_miss hb]
  refine ⟨by omega,fun h=>?_,fun h=>?_⟩
  ·have h:preS t [38,35]=false:=by simpa using h
   rw [h];rfl
  have h:preS t [38,35]=true:=by simpa using h
  rw [h,if_pos rfl]
  have h2:2≤t.length:=by
   have:=congrArg List.length (of_decide_eq_true h)
   rw [List.length_take] at this
   simp only [List.length_cons,List.length_nil] at this
   omega
  have ec:cut t 2 (min (t.length:Int) 6)=(t.take 6).drop 2:=by
   unfold cut
   have:t.take (min (t.length:Int) 6).toNat=t.take 6:=by
    by_cases h6:t.length≤6
    ·rw [show (min (t.length:Int) 6).toNat=t.length by omega,List.take_length,List.take_of_length_le h6]
    ·rw [show (min (t.length:Int) 6).toNat=6 by omega]
   rw [this];rfl
  rw [ec]
  unfold escN
  have hX:((t.take 6).drop 2).length≤4:=by rw [List.length_drop,List.length_take];omega
  generalize (t.take 6).drop 2=X at *
  have hW:(X.takeWhile fun x=>!decide (x=59)).length≤X.length:=(List.takeWhile_prefix _).length_le
  generalize hWd:(X.takeWhile fun x=>!decide (x=59))=W at *
  have hN:=numE_eq W (by omega)
  have hok:=atoiV_ok W
  refine ⟨by omega,by omega,by omega,fun _=>hok,fun hy=>?_,fun hn=>?_⟩
  ·cases hc:X.contains 59 with
   | false=>simp
   | true =>
    rw [hc] at hy
    have:numE W=none:=by
     rw [hN]
     revert hy
     cases atoiE W<;>cases within (atoiV W) 1 126<;>cases decide (itoa (atoiV W)=W)<;>simp
    simp only [if_true,this]
    rfl
  ·cases hc:X.contains 59 with
   | false=>rw [hc] at hn;cases hn
   | true =>
    rw [hc] at hn
    have hw:within (atoiV W) 1 126=true:=by
     revert hn
     cases atoiE W<;>cases within (atoiV W) 1 126<;>simp
    have:numE W=some (atoiV W).toNat:=by
     rw [hN]
     revert hn
     cases atoiE W<;>cases within (atoiV W) 1 126<;>cases decide (itoa (atoiV W)=W)<;>simp
    unfold within at hw
    rw [Bool.and_eq_true,decide_eq_true_iff,decide_eq_true_iff] at hw
    simp only [if_true,this]
    exact ⟨by constructor<;>omega,by constructor<;>omega,rfl⟩)
theorem unS_esc {t:Str} (h:t≠[]) (hn:0 < (escS t).2):unS t=(escS t).1 :: unS (t.drop (escS t).2):=by
 cases t with
 | nil=>exact absurd rfl h
 | cons x r=>rw [unS,dif_pos hn]
theorem unS_plain {t:Str} (h:t≠[]) (hn:¬ 0 < (escS t).2):unS t=t.head h :: unS t.tail:=by
 cases t with
 | nil=>exact absurd rfl h
 | cons x r=>rw [unS,dif_neg hn];rfl
theorem preS_len {t w:Str} (h:preS t w=true):w.length≤t.length:=by
 have:=congrArg List.length (of_decide_eq_true h)
 rw [List.length_take] at this;omega
theorem escS_le (t:Str):(escS t).2≤t.length:=by
 unfold escS
 cases hf:escL.find? fun e=>preS t e.1 with
 | some e=>exact preS_len (List.find?_some (p:=fun e:Str × UInt8=>preS t e.1) hf)
 | none =>
  simp only
  split
  ·rename_i h
   have h2:=preS_len h
   unfold escN
   split
   ·rename_i hc
    split
    ·have hX:((t.take 6).drop 2).length=min 6 t.length - 2:=by rw [List.length_drop,List.length_take]
     have hlt:(((t.take 6).drop 2).takeWhile fun c=>!decide (c=59)).length < ((t.take 6).drop 2).length:=by
      generalize (t.take 6).drop 2=X at hc
      clear hX h2 h hf
      induction X with
      | nil=>simp at hc
      | cons x X ih =>
       rw [List.takeWhile_cons]
       by_cases hx:x=59
       ·simp [hx]
       ·have:X.contains 59=true:=by simpa [Ne.symm hx] using hc
        have:=ih this
        simp [hx];omega
     simp only [List.length_cons,List.length_nil] at h2
     simp only
     omega
    ·exact Nat.zero_le _
   ·exact Nat.zero_le _
  ·exact Nat.zero_le _
noncomputable def sp_unesc:Spec:=⟨[.sc],[.rd],true,fun
 | [.str t]=>some (some (t.length≤1073741823),.str (unS t),[])
 | _=>none⟩
@[push_cast] theorem sp_unesc_s:sp_unesc.ps=[.sc]∧sp_unesc.modes=[.rd]∧sp_unesc.pure=true:=⟨rfl,rfl,rfl⟩
@[push_cast] theorem sp_unesc_run (t:Str):sp_unesc.run [.str t]=some (some (t.length≤1073741823),.str (unS t),[]):=rfl
noncomputable def e_unesc:Env:=mk [(203,sp_esc)] [] [] [] none
@[push_cast] theorem e_unesc_e:MkE e_unesc [(203,sp_esc)] [] [] [] none:=⟨rfl,rfl,rfl,rfl,rfl,rfl,rfl⟩
theorem c_unesc:CRow P0 ety0 133 sp_unesc:=CRow.of (E:=e_unesc) (mkOk (.cons c_esc (.nil))) func133 rfl rfl rfl (by
 intro args p r outs h hq
 simp only [sp_unesc] at h;split at h<;>cases h
 rename_i t
 have hl:=hq _ rfl
 refine Body.intro (rs:=[.tmp 2]) rfl rfl rfl ?_
 apply vc_run 1000 (stop:=false) rfl;simp only [push_cast,simprocAttr]
 refine Run.loop [3,4] [0] [] rfl (fun n vs bs=>∃ (k:Nat) (o:Str),vs=[.own true ⟨.u8,o⟩,.int .i64 k]∧bs=[]∧k≤t.length∧o.length≤k∧unS t=o++unS (t.drop k)∧n=t.length - k) t.length ?_ ?_
 ·simp only [push_cast,simprocAttr]
  exact ⟨0,[],rfl,by omega,by simp,by simp,by omega⟩
 rintro n vs bs ⟨k,o,rfl,rfl,hk,ho,hu,rfl⟩
 simp only [push_cast,simprocAttr]
 apply vc_run 1000 (stop:=false) rfl;simp only [push_cast,simprocAttr]
 have ec:cut t (k:Int) (t.length:Nat)=t.drop k:=by simp [cut]
 simp only [ec,byteAt_k]
 refine ⟨fun h=>?_,fun h=>?_⟩
 ·have hlt:k < t.length:=Int.ofNat_lt.1 (of_decide_eq_true h)
  have hne:t.drop k≠[]:=by intro e;have:=congrArg List.length e;rw [List.length_drop] at this;simp at this;omega
  have hle:=escS_le (t.drop k)
  rw [List.length_drop] at hle
  have hhd:(t.drop k).head hne=t.getD k 0:=by
   have e:t.getD k 0=t[k]:=by simp [List.getD,hlt]
   rw [e];simp [List.head_drop]
  have htl:(t.drop k).tail=t.drop (k+1):=by rw [List.tail_drop]
  refine ⟨by omega,⟨hne,by rw [List.length_drop];omega⟩,fun hy=>?_,fun hn=>?_⟩
  ·have hy:0 < (escS (t.drop k)).2:=by have:=of_decide_eq_true hy;omega
   rw [unS_esc hne hy,List.drop_drop] at hu
   exact ⟨by unfold sizeOk;omega,by constructor<;>omega,_,by omega,k+(escS (t.drop k)).2,_,rfl,by omega,by rw [List.length_append];simp only [List.length_cons,List.length_nil];omega,by rw [hu,List.append_assoc];rfl,rfl⟩
  ·have hn:¬ 0 < (escS (t.drop k)).2:=by have:=of_decide_eq_false hn;omega
   rw [unS_plain hne hn,hhd,htl] at hu
   exact ⟨by omega,by unfold sizeOk;omega,by constructor<;>omega,_,by omega,k+1,_,rfl,by omega,by rw [List.length_append];simp only [List.length_cons,List.length_nil];omega,by rw [hu,List.append_assoc];rfl,rfl⟩
 ·have hge:k=t.length:=by have:=of_decide_eq_false h;omega
  subst hge
  rw [List.drop_length,unS_nil,List.append_nil] at hu
  rw [hu])
theorem preS_amp {t w r:Str} {c:UInt8} (h:t=c :: r) (hc:c≠38):preS t (38 :: w)=false:=by
 subst h
 apply decide_eq_false
 intro e
 have:(c :: r).take (w.length+1)=38 :: w:=e
 rw [List.take_succ_cons,List.cons.injEq] at this
 exact hc this.1
theorem escS_amp {t r:Str} {c:UInt8} (h:t=c :: r) (hc:c≠38):escS t=(0,0):=by
 unfold escS escL
 simp only [List.find?_cons,preS_amp h hc,List.find?_nil]
 rfl
theorem preS_cut (t w:Str) (a:Nat) (ha:a≤t.length):preS (t.drop a) w=bif decide ((a:Int)+(w.length:Nat)≤(t.length:Nat)) then decide (cut t (a:Int) ((a:Int)+(w.length:Nat))=w) else false:=by
 have e:cut t (a:Int) ((a:Int)+(w.length:Nat))=(t.drop a).take w.length:=by
  unfold cut
  rw [show ((a:Int)+(w.length:Nat)).toNat=a+w.length by omega,Int.toNat_natCast,List.drop_take,show a+w.length - a=w.length by omega]
 rw [e]
 unfold preS
 by_cases h:(a:Int)+(w.length:Nat)≤(t.length:Nat)
 ·rw [decide_eq_true h];rfl
 ·rw [decide_eq_false h]
  apply decide_eq_false
  intro e
  have:=congrArg List.length e
  rw [List.length_take,List.length_drop] at this
  have hw:w≠[]→False:=fun hw=>by have:=List.length_pos_iff.2 hw;omega
  cases w with
  | nil=>exact h (by simp only [List.length_nil];omega)
  | cons x r=>exact hw (by simp)
theorem drop_two {t:Str} {a:Nat} (h:a+1 < t.length):t.drop a=t.getD a 0 :: t.getD (a+1) 0 :: t.drop (a+2):=by
 rw [List.drop_eq_getElem_cons (by omega),List.drop_eq_getElem_cons h]
 simp [List.getD,h,show a < t.length by omega]
noncomputable def sp_one:Spec:=⟨[.sc,.sc],[.rd,.rd],true,fun
 | [.str t,.int .i64 i]=>some (some (0≤i∧i < t.length∧t.length≤1073741824∧t.getD i.toNat 0=38),.tup [.u8 (escS (t.drop i.toNat)).1,.int .i64 ((escS (t.drop i.toNat)).2:Nat)],[])
 | _=>none⟩
@[push_cast] theorem sp_one_s:sp_one.ps=[.sc,.sc]∧sp_one.modes=[.rd,.rd]∧sp_one.pure=true:=⟨rfl,rfl,rfl⟩
@[push_cast] theorem sp_one_run (t:Str) (i:Int):sp_one.run [.str t,.int .i64 i]=some (some (0≤i∧i < t.length∧t.length≤1073741824∧t.getD i.toNat 0=38),.tup [.u8 (escS (t.drop i.toNat)).1,.int .i64 ((escS (t.drop i.toNat)).2:Nat)],[]):=rfl
theorem tw_at {c:UInt8}:∀ {X:Str} {j:Nat},j < X.length→(∀ i,i < j→X.getD i 0≠c)→X.getD j 0=c→(X.takeWhile fun x=>!decide (x=c))=X.take j∧X.contains c=true
 | [],j,h,_,_=>by simp at h
 | x :: r,0,_,_,h=>by
  have h:x=c:=h
  subst h
  simp
 | x :: r,j+1,h,hb,he=>by
  have hx:x≠c:=hb 0 (by omega)
  have hd:(!decide (x=c))=true:=by simp [hx]
  obtain ⟨h1,h2⟩:=tw_at (X:=r) (j:=j) (by simpa using h) (fun i hi=>by have:=hb (i+1) (by omega);simpa using this) (by simpa using he)
  rw [List.takeWhile_cons,if_pos hd,h1,List.contains_cons,h2]
  simp
theorem tw_none {c:UInt8}:∀ {X:Str},(∀ i,i < X.length→X.getD i 0≠c)→X.contains c=false
 | [],_=>rfl
 | x :: r,h=>by
  have hx:x≠c:=h 0 (by simp)
  rw [List.contains_cons,tw_none (X:=r) (fun i hi=>by have:=h (i+1) (by simpa using hi);simpa using this)]
  simp [Ne.symm hx]
theorem numE_ok {w:Str} (h:numOK w=true):numE w=if 1≤numV w∧numV w≤126 then some (numV w).toNat else none:=by
 unfold numE numV
 unfold numOK at h
 cases hn:numS w with
 | none=>rw [hn] at h;cases h
 | some n=>rfl
theorem numE_no {w:Str} (h:numOK w=false):numE w=none:=by
 unfold numE
 unfold numOK at h
 cases hn:numS w with
 | none=>rfl
 | some n=>rw [hn] at h;cases h
noncomputable def e_one:Env:=mk [(254,sp_number2),(45,sp_within)] [(6,[],[(true,[0,1,2,3,4,5,6,7,8,9,10,11,12,13,14,15,16,17,18],[])])] [(7,[.frz 6])] [] none
@[push_cast] theorem e_one_e:MkE e_one [(254,sp_number2),(45,sp_within)] [(6,[],[(true,[0,1,2,3,4,5,6,7,8,9,10,11,12,13,14,15,16,17,18],[])])] [(7,[.frz 6])] [] none:=⟨rfl,rfl,rfl,rfl,rfl,rfl,rfl⟩
theorem c_one:CRow P0 ety0 233 sp_one:=CRow.of (E:=e_one) (mkOk (.cons c_l00Number (.cons c_within2 (.nil)))) func233 rfl rfl rfl (by
 intro args p r outs h hq
 simp only [sp_one] at h;split at h<;>cases h
 rename_i t i
 obtain ⟨h0,h1,hl,hc⟩:=hq _ rfl
 obtain ⟨a,rfl⟩:∃ a:Nat,i=a:=⟨i.toNat,by omega⟩
 simp only [Int.toNat_natCast] at hc ⊢
 refine Body.intro (rs:=[.tmp 4,.tmp 5]) rfl rfl rfl ?_
 apply vc_run 1000 (stop:=false) rfl;simp only [push_cast,simprocAttr]
 refine Run.loop [4,5,7] [0,1,6] [] rfl (fun n vs bs=>∃ k:Nat,vs=[.u8 0,.int .i64 0,.int .i64 k]∧bs=[]∧k≤4∧(∀ j,j < k→preS (t.drop a) (escNL.getD j [])=false)∧n=4 - k) 4 ?_ ?_
 ·simp only [push_cast,simprocAttr]
  exact ⟨0,rfl,by omega,fun j h=>by omega,rfl⟩
 rintro n vs bs ⟨k,rfl,rfl,hk,hb,rfl⟩
 simp only [push_cast,simprocAttr]
 apply vc_run 1000 (stop:=false) rfl;simp only [push_cast,simprocAttr]
 have hNL:∀ x:Int,gd [[38,97,109,112,59],[38,108,116,59],[38,103,116,59],[38,113,117,111,116,59]] ([]:Str) x=gd escNL [] x:=fun _=>rfl
 have hBL:∀ x:Int,byteAt [38,60,62,34] x=byteAt escBL x:=fun _=>rfl
 simp only [hNL,hBL,gd_nat,byteAt_k]
 refine ⟨fun h=>?_,fun h=>?_⟩
 ·have hk4:k < 4:=by have:=of_decide_eq_true h;omega
  have hnl:(escNL.getD k []).length≤6:=by
   have:k=0∨k=1∨k=2∨k=3:=by omega
   rcases this with rfl | rfl | rfl | rfl<;>decide
  have hpc:=fun w=>preS_cut t w a (by omega)
  simp only [← hpc]
  refine ⟨by omega,by constructor<;>omega,fun _=>by constructor<;>omega,fun h=>by have:=of_decide_eq_true h;omega,fun _=>by omega,fun hy=>⟨by omega,?_⟩,fun hn=>⟨by constructor<;>omega,_,by omega,k+1,rfl,by omega,fun j hj=>?_,rfl⟩⟩
  ·rw [escS_hit hk4 hb hy]
  ·rcases Nat.lt_or_eq_of_le (Nat.le_of_lt_succ hj) with h' | rfl
   ·exact hb j h'
   ·exact hn
 ·have hk4:k=4:=by have:=of_decide_eq_false h;omega
  subst hk4
  rw [escS_miss hb]
  have e1:byteAt t ((a:Int)+1)=t.getD (a+1) 0:=by rw [show (a:Int)+1=((a+1:Nat):Int) by omega,byteAt_k]
  rw [e1]
  have hX:((t.drop a).take 6).drop 2=(t.take (a+6)).drop (a+2):=by
   rw [← List.drop_drop,List.drop_take (i:=a) (j:=a+6)]
   congr 2;omega
  have hXl:((t.take (a+6)).drop (a+2)).length=min (a+6) t.length - (a+2):=by rw [List.length_drop,List.length_take]
  refine ⟨by constructor<;>omega,fun _=>by constructor<;>omega,fun h=>by have:=of_decide_eq_false h;omega,fun hb=>?_,fun hb=>⟨by constructor<;>omega,?_⟩⟩
  ·by_cases hs:(t.length:Int)≤(a:Int)+3
   ·split
    ·rename_i hp
     have h2:(t.drop a).length≤3:=by rw [List.length_drop];omega
     unfold escN
     rw [hX]
     split
     ·rename_i hc
      have:(t.take (a+6)).drop (a+2)=[59]:=by
       generalize (t.take (a+6)).drop (a+2)=X at hXl hc
       have:X.length≤1:=by omega
       match X,this,hc with
       | [],_,hc=>simp at hc
       | [x],_,hc=>have hc:59=x:=by simpa using hc
                   rw [hc]
      rw [this]
      rfl
     ·rfl
    ·rfl
   ·rw [decide_eq_false hs] at hb
    have hb:t.getD (a+1) 0≠35:=by simpa using hb
    have:preS (t.drop a) [38,35]=false:=by
     rw [drop_two (by omega)]
     apply decide_eq_false
     intro e
     simp only [List.length_cons,List.length_nil,List.take_succ_cons,List.take_zero,List.cons.injEq] at e
     exact hb e.2.1
    rw [this];rfl
  ·have hs:¬ (t.length:Int)≤(a:Int)+3:=by
    intro hs
    rw [decide_eq_true hs] at hb;simp at hb
   rw [decide_eq_false hs] at hb
   have hb:t.getD (a+1) 0=35:=by simpa using hb
   have:preS (t.drop a) [38,35]=true:=by
    rw [drop_two (by omega),hb,hc]
    rfl
   rw [this,if_pos rfl]
   unfold escN
   rw [hX]
   generalize hXd:(t.take (a+6)).drop (a+2)=X at hXl ⊢
   have hXg:∀ j,j < X.length→X.getD j 0=t.getD (a+2+j) 0:=fun j hj=>by
    rw [← hXd]
    simp only [List.getD,List.getElem?_drop,List.getElem?_take]
    rw [if_pos (by omega)]
   refine Run.loop [4,5,9] [0,1] [] rfl (fun n vs bs=>∃ k e:Nat,e=a+2+k∧vs=[.u8 0,.int .i64 0,.int .i64 (e:Nat)]∧bs=[]∧k≤X.length∧(∀ j,j < k→X.getD j 0≠59)∧n=X.length - k) X.length ?_ ?_
   ·simp only [push_cast,simprocAttr]
    refine ⟨0,a+2,by omega,?_,Nat.zero_le _,fun j h=>by omega,rfl⟩
    rfl
   rintro n vs bs ⟨k,e,he,rfl,rfl,hk,hb,rfl⟩
   simp only [push_cast,simprocAttr]
   apply vc_run 1000 (stop:=false) rfl;simp only [push_cast,simprocAttr]
   have e2:cut t ((a:Int)+2) (e:Nat)=X.take k:=by
    unfold cut
    rw [← hXd,Int.toNat_natCast,show ((a:Int)+2).toNat=a+2 by omega,List.take_drop,List.take_take,show min (a+2+k) (a+6)=e by omega]
   have ek:(X.take k).length≤4:=by rw [List.length_take];omega
   simp only [byteAt_k,e2]
   refine ⟨fun _=>by constructor<;>omega,fun hgo=>?_,fun hend=>?_⟩
   ·obtain ⟨g1,g2⟩:e < t.length∧e < a+6:=by
     by_cases g1:(e:Int) < (t.length:Nat)
     ·rw [decide_eq_true g1] at hgo
      have:=of_decide_eq_true hgo
      omega
     ·rw [decide_eq_false g1] at hgo;cases hgo
    have hkX:k < X.length:=by omega
    have hg:=hXg k hkX
    rw [← he] at hg
    refine ⟨by omega,fun h59=>?_,fun h59=>?_⟩
    ·obtain ⟨t1,t2⟩:=tw_at hkX hb (by rw [hg];exact of_decide_eq_true h59)
     rw [t1,if_pos t2]
     refine ⟨by constructor<;>omega,by omega,by omega,fun hy=>?_,fun hn=>?_⟩
     ·cases hok:numOK (X.take k) with
      | false=>rw [hok] at hy;cases hy
      | true =>
       rw [hok] at hy
       have hw:within (numV (X.take k)) 1 126=true:=hy
       unfold within at hw
       rw [Bool.and_eq_true,decide_eq_true_iff,decide_eq_true_iff] at hw
       rw [numE_ok hok,if_pos hw]
       refine ⟨by constructor<;>omega,by constructor<;>omega,by constructor<;>omega,?_⟩
       simp only [List.length_take]
       rw [show (e:Int)+1 - (a:Int)=((min k X.length+3:Nat):Int) by omega]
     ·cases hok:numOK (X.take k) with
      | false=>rw [numE_no hok];rfl
      | true =>
       rw [hok] at hn
       have hw:within (numV (X.take k)) 1 126=false:=hn
       have hw:¬ (1≤numV (X.take k)∧numV (X.take k)≤126):=by
        intro hc
        unfold within at hw
        rw [decide_eq_true hc.1,decide_eq_true hc.2] at hw
        cases hw
       rw [numE_ok hok,if_neg hw];rfl
    ·refine ⟨by constructor<;>omega,_,by omega,k+1,e+1,by omega,rfl,by omega,fun j hj=>?_,rfl⟩
     rcases Nat.lt_or_eq_of_le (Nat.le_of_lt_succ hj) with h' | rfl
     ·exact hb j h'
     ·rw [hg];exact of_decide_eq_false h59
   ·have hkX:X.length≤k:=by
     by_cases g1:(e:Int) < (t.length:Nat)
     ·rw [decide_eq_true g1] at hend
      have:=of_decide_eq_false hend
      omega
     ·omega
    rw [tw_none (X:=X) (c:=59) (fun i hi=>hb i (by omega))]
    rfl)
noncomputable def e_unesc2:Env:=mk [(233,sp_one)] [] [] [] none
@[push_cast] theorem e_unesc2_e:MkE e_unesc2 [(233,sp_one)] [] [] [] none:=⟨rfl,rfl,rfl,rfl,rfl,rfl,rfl⟩
theorem c_unesc2:CRow P0 ety0 186 sp_unesc:=CRow.of (E:=e_unesc2) (mkOk (.cons c_one (.nil))) func186 rfl rfl rfl (by
 intro args p r outs h hq
 simp only [sp_unesc] at h;split at h<;>cases h
 rename_i t
 have hl:=hq _ rfl
 refine Body.intro (rs:=[.tmp 2]) rfl rfl rfl ?_
 apply vc_run 1000 (stop:=false) rfl;simp only [push_cast,simprocAttr]
 refine Run.loop [3,4] [0] [] rfl (fun n vs bs=>∃ (k:Nat) (o:Str),vs=[.own true ⟨.u8,o⟩,.int .i64 k]∧bs=[]∧k≤t.length∧o.length≤k∧unS t=o++unS (t.drop k)∧n=t.length - k) t.length ?_ ?_
 ·simp only [push_cast,simprocAttr]
  exact ⟨0,[],rfl,by omega,by simp,by simp,by omega⟩
 rintro n vs bs ⟨k,o,rfl,rfl,hk,ho,hu,rfl⟩
 simp only [push_cast,simprocAttr]
 apply vc_run 1000 (stop:=false) rfl;simp only [push_cast,simprocAttr]
 simp only [byteAt_k,Int.toNat_natCast]
 refine ⟨fun h=>?_,fun h=>?_⟩
 ·have hlt:k < t.length:=Int.ofNat_lt.1 (of_decide_eq_true h)
  have hne:t.drop k≠[]:=by intro e;have:=congrArg List.length e;rw [List.length_drop] at this;simp at this;omega
  have hle:=escS_le (t.drop k)
  rw [List.length_drop] at hle
  have hhd:(t.drop k).head hne=t.getD k 0:=by
   have e:t.getD k 0=t[k]:=by simp [List.getD,hlt]
   rw [e];simp [List.head_drop]
  have htl:(t.drop k).tail=t.drop (k+1):=by rw [List.tail_drop]
  have hplain:¬ 0 < (escS (t.drop k)).2→(0≤(k:Int)∧(k:Int) < (t.length:Nat))∧sizeOk (o.length+1)∧i64ok ((k:Int)+1)∧∃ j,j < t.length - k∧∃ (k_1:Nat) (o_1:Str),[AV.own true ⟨.u8,o++[t.getD k 0]⟩,.int .i64 ((k:Int)+1)]=[.own true ⟨.u8,o_1⟩,.int .i64 k_1]∧k_1≤t.length∧o_1.length≤k_1∧unS t=o_1++unS (t.drop k_1)∧j=t.length - k_1:=fun hn=>by
   rw [unS_plain hne hn,hhd,htl] at hu
   exact ⟨by omega,by unfold sizeOk;omega,by constructor<;>omega,_,by omega,k+1,_,rfl,by omega,by rw [List.length_append];simp only [List.length_cons,List.length_nil];omega,by rw [hu,List.append_assoc];rfl,rfl⟩
  refine ⟨by omega,fun hc=>⟨⟨by omega,by omega,by omega,of_decide_eq_true hc⟩,fun hy=>?_,fun hn=>?_⟩,fun hc=>?_⟩
  ·have hy:0 < (escS (t.drop k)).2:=by have:=of_decide_eq_true hy;omega
   rw [unS_esc hne hy,List.drop_drop] at hu
   exact ⟨by unfold sizeOk;omega,by constructor<;>omega,_,by omega,k+(escS (t.drop k)).2,_,rfl,by omega,by rw [List.length_append];simp only [List.length_cons,List.length_nil];omega,by rw [hu,List.append_assoc];rfl,rfl⟩
  ·exact hplain (by have:=of_decide_eq_false hn;omega)
  ·refine hplain ?_
   rw [escS_amp (t:=t.drop k) (c:=t.getD k 0) (r:=t.drop (k+1)) ?_ (of_decide_eq_false hc)]
   ·simp
   ·rw [List.drop_eq_getElem_cons hlt];congr 1;simp [List.getD,hlt]
 ·have hge:k=t.length:=by have:=of_decide_eq_false h;omega
  subst hge
  rw [List.drop_length,unS_nil,List.append_nil] at hu
  rw [hu])
end Go.Ab
