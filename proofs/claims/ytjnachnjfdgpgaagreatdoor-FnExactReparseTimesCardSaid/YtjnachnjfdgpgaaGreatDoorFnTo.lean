import Derived.Test.YtjnachnjfdgpgaaGreatDoorFnEs
import Derived.Test.YtjnachnjfdgpgaaGreatDoorFnCo
import Derived.Test.YtjnachnjfdgpgaaGreatDoorFnU
set_option linter.all false
set_option maxRecDepth 20000
set_option maxHeartbeats 1000000
namespace Go.Ab
open Go Go.Proofs.Tryz
open Go.Lib
noncomputable def sp_noth:Spec:=⟨[.sc,.sc],[.rd,.rd],false,fun
 | [.int .i64 a,.int .i64 b]=>some (some (0≤a∧a≤1073741824∧0≤b∧b≤1073741824),.agg [.int .i64 5,.int .i64 a,.int .i64 (b - a),.str [],.str [],.own true ⟨.attr,[]⟩,.bool false],[])
 | _=>none⟩
@[push_cast] theorem sp_noth_s:sp_noth.ps=[.sc,.sc]∧sp_noth.modes=[.rd,.rd]∧sp_noth.pure=false:=⟨rfl,rfl,rfl⟩
@[push_cast] theorem sp_noth_run (a b:Int):sp_noth.run [.int .i64 a,.int .i64 b]=some (some (0≤a∧a≤1073741824∧0≤b∧b≤1073741824),.agg [.int .i64 5,.int .i64 a,.int .i64 (b - a),.str [],.str [],.own true ⟨.attr,[]⟩,.bool false],[]):=rfl
noncomputable def e_noth:Env:=mk [] [] [(2000000,[.nib .attr 4 5])] [] none
@[push_cast] theorem e_noth_e:MkE e_noth [] [] [(2000000,[.nib .attr 4 5])] [] none:=⟨rfl,rfl,rfl,rfl,rfl,rfl,rfl⟩
theorem c_noth:CRow P0 ety0 197 sp_noth:=CRow.of (E:=e_noth) (mkOk (.nil)) func197 rfl rfl rfl (by
 intro args p r outs h hq
 simp only [sp_noth] at h;split at h<;>cases h
 rename_i a b
 obtain ⟨h0,h1,h2,h3⟩:=hq _ rfl
 refine Body.intro (rs:=[.cell 4 83]) rfl rfl rfl ?_
 apply vc_run 1000 (stop:=false) rfl;simp only [push_cast,simprocAttr]
 constructor<;>omega)
theorem name_stop:(fun c:UInt8=>List.contains [32,9,10,12,13,47,62,61] c)=nameStop:=by
 funext c
 unfold nameStop blankB blankL
 simp only [List.contains_cons,List.contains_nil,Bool.or_false,Bool.or_assoc]
 rfl
theorem tag_stop:(fun c:UInt8=>List.contains [32,9,10,12,13,47,62] c)=tagStop:=by
 funext c
 unfold tagStop blankB blankL
 simp only [List.contains_cons,List.contains_nil,Bool.or_false,Bool.or_assoc]
 rfl
theorem val_stop:(fun c:UInt8=>List.contains [32,9,10,12,13,62] c)=valStop:=by
 funext c
 unfold valStop blankB blankL
 simp only [List.contains_cons,List.contains_nil,Bool.or_false,Bool.or_assoc]
 rfl
theorem not_bl:(fun c:UInt8=>!List.contains [32,9,10,12,13] c)=notBl:=rfl
theorem not_bs:(fun c:UInt8=>!List.contains [32,9,10,12,13,47] c)=notBs:=by
 funext c
 unfold notBs blankB blankL
 simp only [List.contains_cons,List.contains_nil,Bool.or_false,Bool.or_assoc]
 rfl
theorem is_b {t:Str} {k:Nat} (h:k < t.length):(fun c:UInt8=>List.contains (cut t (k:Int) ((k:Int)+1)) c)=isB (t.getD k 0):=by
 funext c
 have e:cut t (k:Int) ((k:Int)+1)=[t.getD k 0]:=by
  rw [show (k:Int)+1=((k+1:Nat):Int) by omega,cutN]
  unfold sliceS
  rw [List.drop_take,show k+1 - k=1 by omega,List.drop_eq_getElem_cons h,List.take_succ_cons,List.take_zero]
  simp [List.getD,h]
 rw [e]
 unfold isB
 simp only [List.contains_cons,List.contains_nil,Bool.or_false]
 rfl
theorem is_lt:(fun c:UInt8=>List.contains [60] c)=isB 60:=by
 funext c
 unfold isB
 simp only [List.contains_cons,List.contains_nil,Bool.or_false]
 rfl
theorem slice_len {t:Str} {i j:Nat} (h:j≤t.length):(sliceS t i j).length=j - i:=by unfold sliceS;rw [List.length_drop,List.length_take];omega
noncomputable def sp_attrb:Spec:=⟨[.sc,.sc],[.rd,.rd],true,fun
 | [.str t,.int .i64 i]=>some (some (0≤i∧i < t.length∧t.length≤1073741823),.tup [.agg [.str (attrI t i.toNat).1,.str (attrI t i.toNat).2.1],.int .i64 ((attrI t i.toNat).2.2.1:Nat),.bool (attrI t i.toNat).2.2.2],[])
 | _=>none⟩
@[push_cast] theorem sp_attrb_s:sp_attrb.ps=[.sc,.sc]∧sp_attrb.modes=[.rd,.rd]∧sp_attrb.pure=true:=⟨rfl,rfl,rfl⟩
@[push_cast] theorem sp_attrb_run (t:Str) (i:Int):sp_attrb.run [.str t,.int .i64 i]=some (some (0≤i∧i < t.length∧t.length≤1073741823),.tup [.agg [.str (attrI t i.toNat).1,.str (attrI t i.toNat).2.1],.int .i64 ((attrI t i.toNat).2.2.1:Nat),.bool (attrI t i.toNat).2.2.2],[]):=rfl
noncomputable def e_attrb:Env:=mk [(132,sp_upTo),(196,sp_past),(193,sp_lowS),(133,sp_unesc)] [] [] [] none
@[push_cast] theorem e_attrb_e:MkE e_attrb [(132,sp_upTo),(196,sp_past),(193,sp_lowS),(133,sp_unesc)] [] [] [] none:=⟨rfl,rfl,rfl,rfl,rfl,rfl,rfl⟩
theorem c_attrb:CRow P0 ety0 198 sp_attrb:=CRow.of (E:=e_attrb) (mkOk (.cons c_upTo (.cons c_past (.cons c_lowS (.cons c_unesc (.nil)))))) func198 rfl rfl rfl (by
 intro args p r outs h hq
 simp only [sp_attrb] at h;split at h<;>cases h
 rename_i t i
 obtain ⟨h0,h1,hl⟩:=hq _ rfl
 obtain ⟨a,rfl⟩:∃ a:Nat,i=a:=⟨i.toNat,by omega⟩
 simp only [Int.toNat_natCast]
 have h1:=scanU_ge nameStop t (a+1)
 have h2:=scanU_le nameStop (t:=t) (i:=a+1) (by omega)
 refine Body.intro (rs:=[.cell 4 100,.tmp 5,.tmp 6]) rfl rfl rfl ?_
 apply vc_run 1000 (stop:=false) rfl;simp only [push_cast,simprocAttr]
 have hx:((a:Int)+1).toNat=a+1:=by omega
 unfold attrI
 simp only [name_stop,not_bl,val_stop,hx,Int.toNat_natCast]
 generalize scanU nameStop t (a+1)=e at *
 have h3:=scanU_ge notBl t e
 have h4:=scanU_le notBl h2
 generalize scanU notBl t e=k at *
 have hk1:((k:Int)+1).toNat=k+1:=by omega
 simp only [hk1,byteAt_k,cutN]
 have a1:=scanU_ge notBl t (k+1)
 have sl1:(sliceS t a e).length≤1073741824:=by rw [slice_len h2];omega
 refine ⟨by constructor<;>omega,by omega,by omega,sl1,by omega,fun h=>by have:=of_decide_eq_false h;omega,fun h=>?_,fun h=>?_⟩
 ·have hc:k=t.length∨t.getD k 0≠61:=by
   by_cases hk:k=t.length
   ·exact .inl hk
   ·rw [decide_eq_false (by omega)] at h;exact .inr (by simpa using h)
  rw [if_pos hc]
 ·obtain ⟨hkl,k61⟩:k < t.length∧t.getD k 0=61:=by
   by_cases hk:k=t.length
   ·rw [decide_eq_true (by omega)] at h;cases h
   ·rw [decide_eq_false (by omega)] at h;exact ⟨by omega,by simpa using h⟩
  have hc:¬ (k=t.length∨t.getD k 0≠61):=fun c=>by
   rcases c with c | c
   ·omega
   ·exact c k61
  rw [if_neg hc]
  have a2:=scanU_le notBl (t:=t) (i:=k+1) (by omega)
  generalize scanU notBl t (k+1)=b at *
  have hb1:((b:Int)+1).toNat=b+1:=by omega
  refine ⟨by constructor<;>omega,by omega,fun h=>?_,fun h=>?_⟩
  ·rw [if_pos (by have:=of_decide_eq_true h;omega)]
  have hbl:b < t.length:=by have:=of_decide_eq_false h;omega
  have hbn:¬ b=t.length:=by omega
  have v1:=scanU_ge valStop t b
  have v2:=scanU_le valStop a2
  have q1:=scanU_ge (isB (t.getD b 0)) t (b+1)
  have q2:=scanU_le (isB (t.getD b 0)) (t:=t) (i:=b+1) (by omega)
  simp only [if_neg hbn,is_b hbl,hb1]
  generalize hq1:scanU (isB (t.getD b 0)) t (b+1)=q at *
  generalize scanU valStop t b=v at *
  have e1:cut t ((b:Int)+1) (q:Nat)=sliceS t (b+1) q:=by rw [show (b:Int)+1=((b+1:Nat):Int) by omega,cutN]
  simp only [e1]
  refine ⟨by omega,fun _=>by omega,fun h=>?_,fun h=>?_⟩
  ·have hq:t.getD b 0=34∨t.getD b 0=39:=by
    by_cases h34:t.getD b 0=34
    ·exact .inl h34
    ·rw [decide_eq_false h34] at h;exact .inr (of_decide_eq_true h)
   rw [if_pos hq]
   refine ⟨by constructor<;>omega,by constructor<;>omega,by omega,by omega,fun h=>?_,fun h=>?_⟩
   ·rw [if_pos (by have:=of_decide_eq_true h;omega)]
   ·rw [if_neg (by have:=of_decide_eq_false h;omega)]
    exact ⟨by constructor<;>omega,by omega,by rw [slice_len q2];omega,by constructor<;>omega,rfl⟩
  ·have hq:¬ (t.getD b 0=34∨t.getD b 0=39):=by
    by_cases h34:t.getD b 0=34
    ·rw [decide_eq_true h34] at h;cases h
    ·rw [decide_eq_false h34] at h;exact fun c=>c.elim h34 (of_decide_eq_false h)
   rw [if_neg hq]
   exact ⟨by omega,by omega,by rw [slice_len v2];omega,rfl⟩)
theorem endT_le (t:Str) (i:Nat) (w:Str):min i t.length≤(endT t i w).1∧(endT t i w).1≤t.length∧(endT t i w).2≤t.length+w.length:=by
 unfold endT
 cases h:findS t w i with
 | none=>simp only;omega
 | some k =>
  obtain ⟨h1,h2,h3⟩:=firstP_some h
  simp only;omega
noncomputable def sp_comm:Spec:=⟨[.sc,.sc,.sc,.sc],[.rd,.rd,.rd,.rd],false,fun
 | [.str t,.int .i64 i,.int .i64 b,.str w]=>some (some (0≤i∧i≤b∧i≤t.length∧b≤1073741824∧w≠[]∧w.length≤3∧t.length≤1073741823),.agg [.int .i64 4,.int .i64 i,.int .i64 (((endT t b.toNat w).2:Nat) - i),.str [],.str (sliceS t (min b.toNat t.length) (endT t b.toNat w).1),.own true ⟨.attr,[]⟩,.bool false],[])
 | _=>none⟩
@[push_cast] theorem sp_comm_s:sp_comm.ps=[.sc,.sc,.sc,.sc]∧sp_comm.modes=[.rd,.rd,.rd,.rd]∧sp_comm.pure=false:=⟨rfl,rfl,rfl⟩
@[push_cast] theorem sp_comm_run (t w:Str) (i b:Int):sp_comm.run [.str t,.int .i64 i,.int .i64 b,.str w]=some (some (0≤i∧i≤b∧i≤t.length∧b≤1073741824∧w≠[]∧w.length≤3∧t.length≤1073741823),.agg [.int .i64 4,.int .i64 i,.int .i64 (((endT t b.toNat w).2:Nat) - i),.str [],.str (sliceS t (min b.toNat t.length) (endT t b.toNat w).1),.own true ⟨.attr,[]⟩,.bool false],[]):=rfl
noncomputable def e_comm:Env:=mk [(200,sp_endOf)] [] [(2000000,[.nib .attr 8 5])] [] none
@[push_cast] theorem e_comm_e:MkE e_comm [(200,sp_endOf)] [] [(2000000,[.nib .attr 8 5])] [] none:=⟨rfl,rfl,rfl,rfl,rfl,rfl,rfl⟩
theorem c_comm:CRow P0 ety0 131 sp_comm:=CRow.of (E:=e_comm) (mkOk (.cons c_endOf (.nil))) func131 rfl rfl rfl (by
 intro args p r outs h hq
 simp only [sp_comm] at h;split at h<;>cases h
 rename_i t i b w
 obtain ⟨h0,h1,h2,h3,h4,h5,h6⟩:=hq _ rfl
 obtain ⟨a,rfl⟩:∃ a:Nat,i=a:=⟨i.toNat,by omega⟩
 obtain ⟨c,rfl⟩:∃ c:Nat,b=c:=⟨b.toNat,by omega⟩
 simp only [Int.toNat_natCast]
 obtain ⟨e1,e2,e3⟩:=endT_le t c w
 refine Body.intro (rs:=[.cell 8 83]) rfl rfl rfl ?_
 apply vc_run 1000 (stop:=false) rfl;simp only [push_cast,simprocAttr]
 simp only [Int.toNat_natCast]
 rw [show min (c:Int) (t.length:Nat)=((min c t.length:Nat):Int) by omega,cutN]
 exact ⟨⟨by omega,h4,by omega⟩,by constructor<;>omega,by omega,rfl⟩)
theorem endT_eq (t:Str) (i:Nat) {w:Str} (hw:w≠[]):((endT t i w).1=(endT t i w).2)↔findS t w i=none:=by
 unfold endT
 have:=List.length_pos_iff.2 hw
 cases h:findS t w i with
 | none=>simp
 | some k =>
  simp only
  constructor
  ·intro e;omega
  ·intro e;cases e
noncomputable def sp_clos:Spec:=⟨[.sc,.sc],[.rd,.rd],false,fun
 | [.str t,.int .i64 i]=>some (some (0≤i∧i+2≤t.length∧t.length≤1073741823),.agg [.int .i64 (closeS t i.toNat).kind,.int .i64 (closeS t i.toNat).pos,.int .i64 (closeS t i.toNat).len,.str (closeS t i.toNat).name,.str [],.own true ⟨.attr,[]⟩,.bool false],[])
 | _=>none⟩
@[push_cast] theorem sp_clos_s:sp_clos.ps=[.sc,.sc]∧sp_clos.modes=[.rd,.rd]∧sp_clos.pure=false:=⟨rfl,rfl,rfl⟩
@[push_cast] theorem sp_clos_run (t:Str) (i:Int):sp_clos.run [.str t,.int .i64 i]=some (some (0≤i∧i+2≤t.length∧t.length≤1073741823),.agg [.int .i64 (closeS t i.toNat).kind,.int .i64 (closeS t i.toNat).pos,.int .i64 (closeS t i.toNat).len,.str (closeS t i.toNat).name,.str [],.own true ⟨.attr,[]⟩,.bool false],[]):=rfl
noncomputable def e_clos:Env:=mk [(132,sp_upTo),(193,sp_lowS),(200,sp_endOf),(165,sp_tagOK),(197,sp_noth)] [] [(2000000,[.nib .attr 4 5])] [] none
@[push_cast] theorem e_clos_e:MkE e_clos [(132,sp_upTo),(193,sp_lowS),(200,sp_endOf),(165,sp_tagOK),(197,sp_noth)] [] [(2000000,[.nib .attr 4 5])] [] none:=⟨rfl,rfl,rfl,rfl,rfl,rfl,rfl⟩
theorem c_clos:CRow P0 ety0 129 sp_clos:=CRow.of (E:=e_clos) (mkOk (.cons c_upTo (.cons c_lowS (.cons c_endOf (.cons c_tagOK (.cons c_noth (.nil))))))) func129 rfl rfl rfl (by
 intro args p r outs h hq
 simp only [sp_clos] at h;split at h<;>cases h
 rename_i t i
 obtain ⟨h0,h1,hl⟩:=hq _ rfl
 obtain ⟨a,rfl⟩:∃ a:Nat,i=a:=⟨i.toNat,by omega⟩
 simp only [Int.toNat_natCast]
 have s1:=scanU_ge tagStop t (a+2)
 have s2:=scanU_le tagStop (t:=t) (i:=a+2) (by omega)
 refine Body.intro (rs:=[.cell 4 83]) rfl rfl rfl ?_
 apply vc_run 1000 (stop:=false) rfl;simp only [push_cast,simprocAttr]
 have hx:((a:Int)+2).toNat=a+2:=by omega
 unfold closeS
 simp only [tag_stop,hx,Int.toNat_natCast]
 generalize scanU tagStop t (a+2)=e at *
 have e1:cut t ((a:Int)+2) (e:Nat)=sliceS t (a+2) e:=by rw [show (a:Int)+2=((a+2:Nat):Int) by omega,cutN]
 simp only [e1]
 have el:=slice_len (i:=a+2) s2
 have ll:(lowS (sliceS t (a+2) e)).length=e - (a+2):=by unfold lowS;rw [List.length_map,el]
 have hE:=endT_eq t e (w:=[62]) (by simp)
 obtain ⟨n1,n2,n3⟩:=endT_le t e [62]
 have n4:e≤(endT t e [62]).2:=by
  unfold endT at n1 ⊢
  cases hf:findS t [62] e with
  | none=>exact s2
  | some k=>have:=(firstP_some hf).1;simp only;omega
 simp only [List.length_cons,List.length_nil] at n3
 refine ⟨by constructor<;>omega,by omega,by constructor<;>omega,by omega,by omega,⟨by omega,by simp,by omega⟩,fun _=>by omega,?_⟩
 cases hf:findS t [62] e with
 | none =>
  have hv:endT t e [62]=(t.length,t.length):=by unfold endT;rw [hf]
  rw [hv]
  simp only
  refine ⟨fun _=>⟨by omega,rfl⟩,fun h=>?_⟩
  simp at h
 | some k =>
  have hv:endT t e [62]=(k,k+1):=by unfold endT;rw [hf];rfl
  rw [hv] at n2 n3 n4 ⊢
  simp only at n2 n3 n4 ⊢
  have hne:decide (((k:Nat):Int)=((k+1:Nat):Int))=false:=decide_eq_false (by omega)
  rw [hne]
  cases htg:tagOK (lowS (sliceS t (a+2) e)) with
  | true=>exact ⟨fun h=>(by cases h),fun _=>⟨by constructor<;>omega,rfl⟩⟩
  | false=>exact ⟨fun _=>⟨by omega,rfl⟩,fun h=>(by cases h)⟩)
theorem unS_len:∀ (n:Nat) (t:Str),t.length≤n→(unS t).length≤t.length
 | _,[],_=>by rw [unS_nil];exact Nat.le_refl _
 | 0,x :: r,h=>by simp at h
 | n+1,x :: r,h=>by
  simp only [List.length_cons] at h
  by_cases hp:0 < (escS (x :: r)).2
  ·rw [unS_esc (by simp) hp,List.length_cons]
   have:=unS_len n ((x :: r).drop (escS (x :: r)).2) (by rw [List.length_drop,List.length_cons];omega)
   rw [List.length_drop,List.length_cons] at this
   have hle:=escS_le (x :: r)
   simp only [List.length_cons] at hle ⊢
   omega
  ·rw [unS_plain (by simp) hp,List.length_cons]
   have:=unS_len n r (by omega)
   simp only [List.tail_cons,List.length_cons]
   omega
theorem slice_le (t:Str) (i j:Nat):(sliceS t i j).length≤t.length:=by unfold sliceS;rw [List.length_drop,List.length_take];omega
theorem attr_len (t:Str) (i:Nat):(attrI t i).1.length≤t.length∧(attrI t i).2.1.length≤t.length:=by
 have hl:∀ i j,(lowS (sliceS t i j)).length≤t.length:=fun i j=>by unfold lowS;rw [List.length_map];exact slice_le t i j
 have hu:∀ i j,(unS (sliceS t i j)).length≤t.length:=fun i j=>Nat.le_trans (unS_len _ _ (Nat.le_refl _)) (slice_le t i j)
 unfold attrI
 dsimp only
 repeat' split
 all_goals exact ⟨hl _ _,by first | exact hu _ _ | exact Nat.zero_le _⟩
theorem attrsOK_sz {l:List Attr} (h:attrsOK l=true):l.length≤6∧szL szAt l≤318:=by
 unfold attrsOK at h
 rw [Bool.and_eq_true,decide_eq_true_iff] at h
 obtain ⟨h1,h2⟩:=h
 rw [List.all_eq_true] at h2
 have hb:∀ x∈l,szAt x≤52:=fun x hx=>by
  obtain ⟨k,hk,rfl⟩:=List.mem_iff_getElem.1 hx
  have:=h2 k (List.mem_range.2 hk)
  unfold attrAtOK at this
  rw [Bool.and_eq_true] at this
  have e:l.getD k attrD=l[k]:=by simp [List.getD,hk]
  rw [e] at this
  have ha:=this.1
  unfold attrOK tagOK within at ha
  simp only [Bool.and_eq_true,decide_eq_true_iff] at ha
  unfold szAt
  omega
 have hs:sumL szAt l≤l.length * 52:=by
  clear h1 h2
  unfold sumL
  induction l with
  | nil=>simp
  | cons x r ih =>
   rw [List.map_cons,List.sum_cons,List.length_cons]
   have:=ih fun y hy=>hb y (List.mem_cons_of_mem _ hy)
   have:=hb x (List.mem_cons_self ..)
   omega
 unfold szL
 omega
theorem open_step {t:Str} {e e0:Nat} {l:List Attr} (hop:opT t e0 false []=opT t e false l) (s:Nat) (hs:s=scanU notBs t e) :
  (s=t.length→opT t e0 false []=none)∧(s < t.length→t.getD s 0=62→opT t e0 false []=some (s,(if s=e then false else decide (t.getD (s - 1) 0=47)),l)) ∧
  (s < t.length→t.getD s 0≠62→((attrI t s).2.2.2=false→opT t e0 false []=none)∧((attrI t s).2.2.2=true→opT t e0 false []=opT t (attrI t s).2.2.1 false (keepT l ⟨(attrI t s).1,(attrI t s).2.1⟩)∧s < (attrI t s).2.2.1∧(attrI t s).2.2.1≤t.length)):=by
 rw [hop,opT_scan,← hs,opT_eq]
 refine ⟨fun h=>by rw [if_neg (by omega)],fun h h62=>by rw [if_pos h,if_pos h62],fun h h62=>?_⟩
 have hb:notBs (t.getD s 0)=true:=by rw [hs];exact scanU_hit (by rw [← hs];exact h)
 have hb:¬ (blankB (t.getD s 0) || decide (t.getD s 0=47))=true:=by
  unfold notBs at hb
  intro c;rw [c] at hb;cases hb
 rw [if_pos h,if_neg h62,if_neg hb]
 obtain ⟨r1,r2,r3,r4,r5⟩:=attr_rel h
 refine ⟨fun hk=>?_,fun hk=>?_⟩
 ·rw [r5 hk,opT_eq,if_neg (by omega)]
 ·obtain ⟨q1,q2,q3,q4⟩:=r4 hk
  rw [← r1,← q1,opT_blanks q2 q3 q4]
  exact ⟨rfl,by omega,q3⟩
noncomputable def sp_opn:Spec:=⟨[.sc,.sc],[.rd,.rd],false,fun
 | [.str t,.int .i64 i]=>some (some (0≤i∧i < t.length∧t.length≤524000),.agg [.int .i64 (openS t i.toNat).kind,.int .i64 (openS t i.toNat).pos,.int .i64 (openS t i.toNat).len,.str (openS t i.toNat).name,.str [],.own true ⟨.attr,(openS t i.toNat).attrs⟩,.bool (openS t i.toNat).self],[])
 | _=>none⟩
@[push_cast] theorem sp_opn_s:sp_opn.ps=[.sc,.sc]∧sp_opn.modes=[.rd,.rd]∧sp_opn.pure=false:=⟨rfl,rfl,rfl⟩
@[push_cast] theorem sp_opn_run (t:Str) (i:Int):sp_opn.run [.str t,.int .i64 i]=some (some (0≤i∧i < t.length∧t.length≤524000),.agg [.int .i64 (openS t i.toNat).kind,.int .i64 (openS t i.toNat).pos,.int .i64 (openS t i.toNat).len,.str (openS t i.toNat).name,.str [],.own true ⟨.attr,(openS t i.toNat).attrs⟩,.bool (openS t i.toNat).self],[]):=rfl
noncomputable def e_opn:Env:=mk [(132,sp_upTo),(193,sp_lowS),(196,sp_past),(197,sp_noth),(198,sp_attrb),(145,sp_cloneA),(199,sp_attrsOK),(165,sp_tagOK)] [(12,[2,5],[(true,[0,1,2,3,4,5,6],[[],[],[],[0],[0]])])] [(2000000,[.nib .attr 4 5]),(24,[.nib .attr 6 5]),(67,[.lit])] [] none
@[push_cast] theorem e_opn_e:MkE e_opn [(132,sp_upTo),(193,sp_lowS),(196,sp_past),(197,sp_noth),(198,sp_attrb),(145,sp_cloneA),(199,sp_attrsOK),(165,sp_tagOK)] [(12,[2,5],[(true,[0,1,2,3,4,5,6],[[],[],[],[0],[0]])])] [(2000000,[.nib .attr 4 5]),(24,[.nib .attr 6 5]),(67,[.lit])] [] none:=⟨rfl,rfl,rfl,rfl,rfl,rfl,rfl⟩
theorem c_opn:CRow P0 ety0 128 sp_opn:=CRow.of (E:=e_opn) (mkOk (.cons c_upTo (.cons c_lowS (.cons c_past (.cons c_noth (.cons c_attrb (.cons c_cloneA (.cons c_attrsOK (.cons c_tagOK (.nil)))))))))) func128 rfl rfl rfl (by
 intro args p r outs h hq
 simp only [sp_opn] at h;split at h<;>cases h
 rename_i t i
 obtain ⟨h0,h1,hl⟩:=hq _ rfl
 obtain ⟨a,rfl⟩:∃ a:Nat,i=a:=⟨i.toNat,by omega⟩
 simp only [Int.toNat_natCast]
 have s1:=scanU_ge tagStop t (a+1)
 have s2:=scanU_le tagStop (t:=t) (i:=a+1) (by omega)
 refine Body.intro (rs:=[.cell 4 83]) rfl rfl rfl ?_
 apply vc_run 1000 (stop:=false) rfl;simp only [push_cast,simprocAttr]
 have hx:((a:Int)+1).toNat=a+1:=by omega
 simp only [tag_stop,hx,Int.toNat_natCast]
 have e1:cut t ((a:Int)+1) (scanU tagStop t (a+1):Nat)=sliceS t (a+1) (scanU tagStop t (a+1)):=by rw [show (a:Int)+1=((a+1:Nat):Int) by omega,cutN]
 simp only [e1]
 have eo:openS t a=match opT t (scanU tagStop t (a+1)) false [] with
  | some q=>if tagOK (lowS (sliceS t (a+1) (scanU tagStop t (a+1))))=true then ⟨2,a,(q.1:Int)+1 - a,lowS (sliceS t (a+1) (scanU tagStop t (a+1))),[],q.2.2,q.2.1⟩ else noTok a (q.1+1)
  | none=>noTok a t.length:=rfl
 generalize openS t a=O at *
 generalize scanU tagStop t (a+1)=e0 at *
 have el:=slice_len (i:=a+1) s2
 have ll:(lowS (sliceS t (a+1) e0)).length=e0 - (a+1):=by unfold lowS;rw [List.length_map,el]
 generalize lowS (sliceS t (a+1) e0)=M at *
 refine ⟨by constructor<;>omega,by omega,by constructor<;>omega,by omega,by omega,?_⟩
 refine Run.loop [5] [0,1,4,6] [0,1] rfl (fun n vs bs=>∃ (e:Nat) (l:List Attr) (f:AV),vs=[.int .i64 e]∧bs=[[.int .i64 0,.int .i64 0,.int .i64 0,.str [],.str [],.nilS,.bool false],[.int .i64 2,.int .i64 a,.int .i64 0,.str M,.str [],f,.bool false]]∧(f=.nilS∧l=[]∨f=.own true ⟨.attr,l⟩)∧a+1≤e∧e≤t.length∧opT t e0 false []=opT t e false l∧(l=[]∨attrsOK l=true)∧n=t.length - e) (t.length - e0) ?_ ?_
 ·simp only [push_cast,simprocAttr]
  exact ⟨e0,[],.nilS,rfl,rfl,.inl ⟨rfl,rfl⟩,s1,s2,rfl,.inl rfl,rfl⟩
 rintro n vs bs ⟨e,l,f,rfl,rfl,hf,he1,he2,hop,hat,rfl⟩
 rcases hf with ⟨rfl,rfl⟩ | rfl
 ·simp only [push_cast,simprocAttr]
  apply vc_run 1000 (stop:=false) rfl;simp only [push_cast,simprocAttr]
  simp only [not_bs,Int.toNat_natCast,byteAt_k]
  have hst:=open_step hop (scanU notBs t e) rfl
  have g1:=scanU_ge notBs t e
  have g2:=scanU_le notBs he2
  generalize scanU notBs t e=s at *
  obtain ⟨o1,o2,o3⟩:=hst
  obtain ⟨m1,m2⟩:=attr_len t s
  refine ⟨by omega,fun hs=>⟨by omega,?_⟩,fun hs=>⟨by have:=of_decide_eq_false hs;omega,fun h62=>?_,fun h62=>?_⟩⟩
  ·rw [o1 (by have:=of_decide_eq_true hs;omega)] at eo
   subst eo
   have:=of_decide_eq_true hs
   rw [show s=t.length by omega];rfl
  ·have hlt:s < t.length:=by have:=of_decide_eq_false hs;omega
   rw [o2 hlt (of_decide_eq_true h62)] at eo
   simp only at eo
   refine ⟨fun h=>by have:=of_decide_eq_true h;constructor<;>omega,fun h=>by have:=of_decide_eq_true h;omega,by omega,fun htg=>?_,fun htg=>?_⟩
   ·rw [if_neg (by intro c;rw [c] at htg;cases htg)] at eo
    subst eo
    exact ⟨by constructor<;>omega,by omega,rfl⟩
   ·rw [if_pos (by cases hc:tagOK M with
     | true=>rfl
     | false=>rw [hc] at htg;cases htg)] at eo
    subst eo
    refine ⟨by constructor<;>omega,by constructor<;>omega,?_⟩
    by_cases hse:s=e
    ·rw [if_pos hse,decide_eq_false (by omega)];rfl
    ·rw [if_neg hse,decide_eq_true (by omega),show (s:Int) - 1=((s - 1:Nat):Int) by omega,byteAt_k];rfl
  ·have hlt:s < t.length:=by have:=of_decide_eq_false hs;omega
   obtain ⟨o4,o5⟩:=o3 hlt (of_decide_eq_false h62)
   refine ⟨by omega,fun hok=>⟨by omega,?_⟩,fun hok=>?_⟩
   ·rw [o4 (by simpa using hok)] at eo
    subst eo
    rfl
   ·obtain ⟨o6,o7,o8⟩:=o5 (by simpa using hok)
    have hsz:szL szAt [(⟨(attrI t s).1,(attrI t s).2.1⟩:Attr)]=1+((attrI t s).1.length+(attrI t s).2.1.length):=by simp [szL,sumL,szAt]
    refine ⟨by unfold sizeOk;omega,by omega,fun hy=>⟨_,?_,(attrI t s).2.2.1,[⟨(attrI t s).1,(attrI t s).2.1⟩],_,rfl,rfl,.inr rfl,by omega,o8,?_,.inr hy,rfl⟩,fun hn=>⟨_,?_,(attrI t s).2.2.1,[],_,rfl,rfl,.inr rfl,by omega,o8,?_,.inl rfl,rfl⟩⟩
    ·omega
    ·rw [o6];unfold keepT;rw [List.nil_append,if_pos hy]
    ·omega
    ·rw [o6];unfold keepT;rw [List.nil_append,if_neg (by rw [hn];simp)]
 ·simp only [push_cast,simprocAttr]
  apply vc_run 1000 (stop:=false) rfl;simp only [push_cast,simprocAttr]
  simp only [not_bs,Int.toNat_natCast,byteAt_k]
  have hst:=open_step hop (scanU notBs t e) rfl
  have g1:=scanU_ge notBs t e
  have g2:=scanU_le notBs he2
  generalize scanU notBs t e=s at *
  obtain ⟨o1,o2,o3⟩:=hst
  obtain ⟨m1,m2⟩:=attr_len t s
  refine ⟨by omega,fun hs=>⟨by omega,?_⟩,fun hs=>⟨by have:=of_decide_eq_false hs;omega,fun h62=>?_,fun h62=>?_⟩⟩
  ·rw [o1 (by have:=of_decide_eq_true hs;omega)] at eo
   subst eo
   have:=of_decide_eq_true hs
   rw [show s=t.length by omega];rfl
  ·have hlt:s < t.length:=by have:=of_decide_eq_false hs;omega
   rw [o2 hlt (of_decide_eq_true h62)] at eo
   simp only at eo
   refine ⟨fun h=>by have:=of_decide_eq_true h;constructor<;>omega,fun h=>by have:=of_decide_eq_true h;omega,by omega,fun htg=>?_,fun htg=>?_⟩
   ·rw [if_neg (by intro c;rw [c] at htg;cases htg)] at eo
    subst eo
    exact ⟨by constructor<;>omega,by omega,rfl⟩
   ·rw [if_pos (by cases hc:tagOK M with
     | true=>rfl
     | false=>rw [hc] at htg;cases htg)] at eo
    subst eo
    refine ⟨by constructor<;>omega,by constructor<;>omega,?_⟩
    by_cases hse:s=e
    ·rw [if_pos hse,decide_eq_false (by omega)];rfl
    ·rw [if_neg hse,decide_eq_true (by omega),show (s:Int) - 1=((s - 1:Nat):Int) by omega,byteAt_k];rfl
  ·have hlt:s < t.length:=by have:=of_decide_eq_false hs;omega
   obtain ⟨o4,o5⟩:=o3 hlt (of_decide_eq_false h62)
   refine ⟨by omega,fun hok=>⟨by omega,?_⟩,fun hok=>?_⟩
   ·rw [o4 (by simpa using hok)] at eo
    subst eo
    rfl
   ·obtain ⟨o6,o7,o8⟩:=o5 (by simpa using hok)
    have hsz:szL szAt (l++[(⟨(attrI t s).1,(attrI t s).2.1⟩:Attr)])=szL szAt l+(1+((attrI t s).1.length+(attrI t s).2.1.length)):=by simp [szL,sumL,szAt];omega
    have hl6:l.length≤6∧szL szAt l≤318:=by
     rcases hat with rfl | h
     ·simp [szL,sumL]
     ·exact attrsOK_sz h
    refine ⟨by omega,by unfold sizeOk;omega,by omega,fun hy=>⟨_,?_,(attrI t s).2.2.1,l++[⟨(attrI t s).1,(attrI t s).2.1⟩],_,rfl,rfl,.inr rfl,by omega,o8,?_,.inr hy,rfl⟩,fun hn=>⟨_,?_,(attrI t s).2.2.1,l,_,rfl,rfl,.inr rfl,by omega,o8,?_,hat,rfl⟩⟩
    ·omega
    ·rw [o6];unfold keepT;rw [if_pos hy]
    ·omega
    ·rw [o6];unfold keepT;rw [if_neg (by rw [hn];simp)])
noncomputable def sp_isLet:Spec:=⟨[.sc],[.rd],true,fun
 | [.u8 c]=>some (none,.bool (letterB c),[])
 | _=>none⟩
@[push_cast] theorem sp_isLet_s:sp_isLet.ps=[.sc]∧sp_isLet.modes=[.rd]∧sp_isLet.pure=true:=⟨rfl,rfl,rfl⟩
@[push_cast] theorem sp_isLet_run (c:UInt8):sp_isLet.run [.u8 c]=some (none,.bool (letterB c),[]):=rfl
noncomputable def e_isLet:Env:=mk [(195,sp_isSmall)] [] [] [] none
@[push_cast] theorem e_isLet_e:MkE e_isLet [(195,sp_isSmall)] [] [] [] none:=⟨rfl,rfl,rfl,rfl,rfl,rfl,rfl⟩
theorem c_isLet:CRow P0 ety0 127 sp_isLet:=CRow.of (E:=e_isLet) (mkOk (.cons c_isSmall (.nil))) func127 rfl rfl rfl (by
 intro args p r outs h hq
 simp only [sp_isLet] at h;split at h<;>cases h
 rename_i c
 refine Body.intro (rs:=[.tmp 2]) rfl rfl rfl ?_
 apply vc_run 1000 (stop:=false) rfl;simp only [push_cast,simprocAttr]
 unfold letterB
 have e:smallB c=rngB c 97 122:=rfl
 rw [e]
 cases rngB c 97 122<;>rfl)
theorem openS_text (t:Str) (i:Nat):(openS t i).text=[]:=by
 unfold openS
 repeat' split
 all_goals rfl
theorem closeS_text (t:Str) (i:Nat):(closeS t i).text=[]∧(closeS t i).attrs=[]∧(closeS t i).self=false:=by
 unfold closeS
 repeat' split
 all_goals exact ⟨rfl,rfl,rfl⟩
theorem or3 (x a b c:UInt8):(bif bif decide (x=a) then true else decide (x=b) then true else decide (x=c))=decide (x=a∨x=b∨x=c):=by
 cases h1:decide (x=a)<;>cases h2:decide (x=b)<;>cases h3:decide (x=c)<;>simp only [decide_eq_true_iff,decide_eq_false_iff_not] at h1 h2 h3<;>simp [h1,h2,h3]
def restS (t:Str) (i:Nat):Tokn :=
 if t.getD i 0=60∧i+1 < t.length then
  if letterB (t.getD (i+1) 0)=true then openS t i
  else if t.getD (i+1) 0=47∧i+2 < t.length∧letterB (t.getD (i+2) 0)=true then closeS t i
  else if occS t [60,33,45,45] i=true then commS t i (i+4) [45,45,62]
  else if t.getD (i+1) 0=33∨t.getD (i+1) 0=63∨t.getD (i+1) 0=47 then commS t i (i+2) [62]
  else wordS t i
 else wordS t i
theorem next_raw {t raw:Str} {i:Nat} (h:raw≠[]∧i < rawEndS t i raw):nextS t i raw=⟨1,i,(rawEndS t i raw:Int) - i,[],sliceS t i (rawEndS t i raw),[],false⟩:=if_pos h
theorem next_rest {t raw:Str} {i:Nat} (h:¬ (raw≠[]∧i < rawEndS t i raw)):nextS t i raw=restS t i:=if_neg h
theorem rawEnd_le {t raw:Str} {i:Nat} (h:i≤t.length):rawEndS t i raw≤t.length:=by
 unfold rawEndS
 cases hf:firstP (rawP t raw) i (t.length - 2 - raw.length) with
 | none=>exact Nat.le_refl _
 | some k=>have:=(firstP_some hf).2.1;simp only [Option.getD_some];omega
theorem occ_pre (t w:Str) (i:Nat):preS (t.drop i) w=occS t w i:=rfl
noncomputable def sp_next:Spec:=⟨[.sc,.sc,.sc],[.rd,.rd,.rd],false,fun
 | [.str t,.int .i64 i,.str raw]=>some (some (0≤i∧i < t.length∧raw.length≤1073741824∧t.length≤524000),.agg [.int .i64 (nextS t i.toNat raw).kind,.int .i64 (nextS t i.toNat raw).pos,.int .i64 (nextS t i.toNat raw).len,.str (nextS t i.toNat raw).name,.str (nextS t i.toNat raw).text,.own true ⟨.attr,(nextS t i.toNat raw).attrs⟩,.bool (nextS t i.toNat raw).self],[])
 | _=>none⟩
@[push_cast] theorem sp_next_s:sp_next.ps=[.sc,.sc,.sc]∧sp_next.modes=[.rd,.rd,.rd]∧sp_next.pure=false:=⟨rfl,rfl,rfl⟩
@[push_cast] theorem sp_next_run (t raw:Str) (i:Int):sp_next.run [.str t,.int .i64 i,.str raw]=some (some (0≤i∧i < t.length∧raw.length≤1073741824∧t.length≤524000),.agg [.int .i64 (nextS t i.toNat raw).kind,.int .i64 (nextS t i.toNat raw).pos,.int .i64 (nextS t i.toNat raw).len,.str (nextS t i.toNat raw).name,.str (nextS t i.toNat raw).text,.own true ⟨.attr,(nextS t i.toNat raw).attrs⟩,.bool (nextS t i.toNat raw).self],[]):=rfl
noncomputable def e_next:Env:=mk [(126,sp_rawEnd),(127,sp_isLet),(128,sp_opn),(129,sp_clos),(130,sp_preS),(131,sp_comm),(132,sp_upTo),(133,sp_unesc)] [] [(2000000,[.nib .attr 6 5])] [] none
@[push_cast] theorem e_next_e:MkE e_next [(126,sp_rawEnd),(127,sp_isLet),(128,sp_opn),(129,sp_clos),(130,sp_preS),(131,sp_comm),(132,sp_upTo),(133,sp_unesc)] [] [(2000000,[.nib .attr 6 5])] [] none:=⟨rfl,rfl,rfl,rfl,rfl,rfl,rfl⟩
theorem c_next:CRow P0 ety0 73 sp_next:=CRow.of (E:=e_next) (mkOk (.cons c_rawEnd (.cons c_isLet (.cons c_opn (.cons c_clos (.cons c_hasPre (.cons c_comm (.cons c_upTo (.cons c_unesc (.nil)))))))))) func73 rfl rfl rfl (by
 intro args p r outs h hq
 simp only [sp_next] at h;split at h<;>cases h
 rename_i t i raw
 obtain ⟨h0,h1,hr,hl⟩:=hq _ rfl
 obtain ⟨a,rfl⟩:∃ a:Nat,i=a:=⟨i.toNat,by omega⟩
 simp only [Int.toNat_natCast]
 have hal:a < t.length:=by omega
 refine Body.intro (rs:=[.cell 6 83]) rfl rfl rfl ?_
 apply vc_run 1000 (stop:=false) rfl;simp only [push_cast,simprocAttr]
 have hx1:((a:Int)+1).toNat=a+1:=by omega
 have ec:cut t (a:Int) (t.length:Nat)=t.drop a:=by simp [cut]
 have eb:∀ j:Nat,byteAt (t.drop a) (j:Int)=t.getD (a+j) 0:=fun j=>by rw [byteAt_k];simp [List.getD]
 have eb0:byteAt (t.drop a) 0=t.getD a 0:=eb 0
 have eb1:byteAt (t.drop a) 1=t.getD (a+1) 0:=eb 1
 have eb2:byteAt (t.drop a) 2=t.getD (a+2) 0:=eb 2
 simp only [is_lt,hx1,Int.toNat_natCast,ec,eb0,eb1,eb2,List.length_drop,cutN]
 have hx2:((a:Int)+2).toNat=a+2:=by omega
 have hx4:((a:Int)+4).toNat=a+4:=by omega
 simp only [hx2,hx4,occ_pre]
 have hre:=rawEnd_le (raw:=raw) (Nat.le_of_lt hal)
 have w1:=scanU_ge (isB 60) t (a+1)
 have w2:=scanU_le (isB 60) (t:=t) (i:=a+1) (by omega)
 have wl:=slice_le t a (scanU (isB 60) t (a+1))
 refine ⟨fun hr1=>⟨by omega,fun hy=>?_,fun hn=>⟨by omega,?_⟩⟩,fun hr1=>⟨by omega,?_⟩⟩
 ·have hy:=of_decide_eq_true hy
  rw [next_raw ⟨by simpa using hr1,by omega⟩]
  exact ⟨by constructor<;>omega,by omega,rfl⟩
 all_goals
  have hrest:nextS t a raw=restS t a:=next_rest (fun c=>by
   first
    | (have:=of_decide_eq_false hn;omega)
    | (have:raw=[]:=by simpa using hr1
       exact c.1 this))
  rw [hrest]
  refine ⟨by omega,fun hy=>?_,fun hn=>?_⟩
  ·obtain ⟨h60,hl1⟩:t.getD a 0=60∧a+1 < t.length:=by
    cases hd:decide (t.getD a 0=60) with
    | false=>rw [hd] at hy;cases hy
    | true =>
     rw [hd] at hy
     have:=of_decide_eq_true hy
     exact ⟨of_decide_eq_true hd,by omega⟩
   unfold restS
   rw [if_pos ⟨h60,hl1⟩]
   refine ⟨by omega,fun hL=>?_,fun hL=>⟨fun h=>?_,fun h=>?_,fun h=>⟨by omega,fun hp=>?_,fun hp=>?_⟩⟩⟩
   ·rw [if_pos hL,openS_text]
    exact ⟨by omega,rfl⟩
   ·cases hd:decide (t.getD (a+1) 0=47) with
    | false=>rw [hd] at h;cases h
    | true=>rw [hd] at h;exact of_decide_eq_true h
   ·obtain ⟨h47,hl2,hL2⟩:t.getD (a+1) 0=47∧a+2 < t.length∧letterB (t.getD (a+2) 0)=true:=by
     cases hd:decide (t.getD (a+1) 0=47) with
     | false=>rw [hd] at h;cases h
     | true =>
      rw [hd] at h
      cases hd2:decide ((2:Int) < ((t.length - a:Nat):Int)) with
      | false=>rw [hd2] at h;cases h
      | true =>
       rw [hd2] at h
       have:=of_decide_eq_true hd2
       exact ⟨of_decide_eq_true hd,by omega,h⟩
    obtain ⟨c1,c2,c3⟩:=closeS_text t a
    rw [if_neg (by rw [hL];simp),if_pos ⟨h47,hl2,hL2⟩,c1,c2,c3]
    exact ⟨by omega,rfl⟩
   ·have hcn:¬ (t.getD (a+1) 0=47∧a+2 < t.length∧letterB (t.getD (a+2) 0)=true):=fun c=>by
     rw [decide_eq_true c.1,decide_eq_true (show (2:Int) < ((t.length - a:Nat):Int) by omega),c.2.2] at h
     cases h
    have hroom:=(occS_room hp (by simp)).1
    simp only [List.length_cons,List.length_nil] at hroom
    rw [if_neg (by rw [hL];simp),if_neg hcn,if_pos hp]
    refine ⟨by constructor<;>omega,⟨by omega,by omega,by omega,by omega,by simp,by omega⟩,?_⟩
    rw [show min (a+4) t.length=a+4 by omega]
    rfl
   ·have hcn:¬ (t.getD (a+1) 0=47∧a+2 < t.length∧letterB (t.getD (a+2) 0)=true):=fun c=>by
     rw [decide_eq_true c.1,decide_eq_true (show (2:Int) < ((t.length - a:Nat):Int) by omega),c.2.2] at h
     cases h
    rw [if_neg (by rw [hL];simp),if_neg hcn,if_neg (by rw [hp];simp)]
    refine ⟨fun h3=>?_,fun h3=>?_⟩
    ·rw [or3] at h3
     rw [if_pos (of_decide_eq_true h3)]
     refine ⟨by constructor<;>omega,⟨by omega,by omega,by omega,by omega,by simp,by omega⟩,?_⟩
     rw [show min (a+2) t.length=a+2 by omega]
     rfl
    ·rw [or3] at h3
     rw [if_neg (of_decide_eq_false h3)]
     exact ⟨by constructor<;>omega,by omega,by constructor<;>omega,by omega,by omega,rfl⟩
  ·have hcn:¬ (t.getD a 0=60∧a+1 < t.length):=fun c=>by
    rw [decide_eq_true c.1,decide_eq_true (show (1:Int) < ((t.length - a:Nat):Int) by omega)] at hn
    cases hn
   unfold restS
   rw [if_neg hcn]
   exact ⟨by constructor<;>omega,by omega,by constructor<;>omega,by omega,by omega,rfl⟩)
end Go.Ab
