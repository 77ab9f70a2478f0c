import Derived.Test.YtjnachnjfdgpgaaGreatDoorFnLo
import Derived.Test.YtjnachnjfdgpgaaGreatDoorFnSa
import Derived.Test.YtjnachnjfdgpgaaGreatDoorFnU
import Derived.Test.YtjnachnjfdgpgaaGreatDoorPlNum
import Derived.Lib.IndexLaws
set_option linter.all false
set_option maxRecDepth 20000
set_option maxHeartbeats 1000000
namespace Go.Ab
open Go Go.Proofs.Tryz
open Go.Lib
def scanU (p:UInt8→Bool) (t:Str) (i:Nat):Nat:=i+((t.drop i).takeWhile fun c=>!p c).length
theorem scanU_step (p:UInt8→Bool) (t:Str) (i:Nat):scanU p t i=if i < t.length∧p (t.getD i 0)=false then scanU p t (i+1) else i:=by
 unfold scanU
 by_cases h:i < t.length
 ·have e:t.getD i 0=t[i]:=by simp [List.getD,h]
  rw [List.drop_eq_getElem_cons h,List.takeWhile_cons,e]
  cases hp:p t[i] with
  | true=>simp
  | false=>simp [h];omega
 ·rw [if_neg (fun e=>h e.1),List.drop_eq_nil_of_le (by omega)];simp
theorem scanU_out {p:UInt8→Bool} {t:Str} {i:Nat} (h:t.length≤i):scanU p t i=i:=by rw [scanU_step,if_neg (by omega)]
theorem scanU_in {p:UInt8→Bool} {t:Str} {i:Nat} (h:p (t.getD i 0)=true):scanU p t i=i:=by rw [scanU_step,if_neg (by rw [h];simp)]
theorem scanU_go {p:UInt8→Bool} {t:Str} {i:Nat} (h:i < t.length) (hp:p (t.getD i 0)=false):scanU p t i=scanU p t (i+1):=by
 conv=>lhs;rw [scanU_step,if_pos ⟨h,hp⟩]
theorem scanU_at {p:UInt8→Bool} {t:Str} {i k:Nat} (hik:i≤k) (hk:k≤t.length) (hb:∀ j,i≤j→j < k→p (t.getD j 0)=false) (he:k < t.length→p (t.getD k 0)=true):scanU p t i=k:=by
 obtain ⟨d,rfl⟩:∃ d,k=i+d:=⟨k - i,by omega⟩
 induction d generalizing i with
 | zero =>
  by_cases h:i < t.length
  ·exact scanU_in (he h)
  ·exact scanU_out (by omega)
 | succ d ih =>
  rw [scanU_go (by omega) (hb i (Nat.le_refl _) (by omega))]
  have:=ih (i:=i+1) (by omega) (by omega) (fun j h1 h2=>hb j (by omega) (by omega)) (fun h=>by have:=he (by omega);rwa [show i+1+d=i+(d+1) by omega])
  rw [this];omega
theorem scanU_spec (p:UInt8→Bool) (t:Str):∀ d i,t.length - i=d→i≤scanU p t i∧(i≤t.length→scanU p t i≤t.length)∧(∀ j,i≤j→j < scanU p t i→p (t.getD j 0)=false)∧(scanU p t i < t.length→p (t.getD (scanU p t i) 0)=true)
 | 0,i,h=>by
  rw [scanU_out (by omega)]
  exact ⟨Nat.le_refl _,fun h=>h,fun j h1 h2=>by omega,fun h=>by omega⟩
 | d+1,i,h=>by
  cases hp:p (t.getD i 0) with
  | true =>
   rw [scanU_in hp]
   exact ⟨Nat.le_refl _,fun h=>h,fun j h1 h2=>by omega,fun _=>hp⟩
  | false =>
   rw [scanU_go (by omega) hp]
   obtain ⟨h1,h2,h3,h4⟩:=scanU_spec p t d (i+1) (by omega)
   refine ⟨by omega,fun _=>h2 (by omega),fun j hj1 hj2=>?_,h4⟩
   rcases Nat.lt_or_eq_of_le hj1 with hj | rfl
   ·exact h3 j hj hj2
   ·exact hp
theorem scanU_ge (p:UInt8→Bool) (t:Str) (i:Nat):i≤scanU p t i:=(scanU_spec p t _ i rfl).1
theorem scanU_le (p:UInt8→Bool) {t:Str} {i:Nat} (h:i≤t.length):scanU p t i≤t.length:=(scanU_spec p t _ i rfl).2.1 h
theorem scanU_no {p:UInt8→Bool} {t:Str} {i j:Nat} (h1:i≤j) (h2:j < scanU p t i):p (t.getD j 0)=false:=(scanU_spec p t _ i rfl).2.2.1 j h1 h2
theorem scanU_hit {p:UInt8→Bool} {t:Str} {i:Nat} (h:scanU p t i < t.length):p (t.getD (scanU p t i) 0)=true:=(scanU_spec p t _ i rfl).2.2.2 h
def firstP (q:Nat→Bool) (i n:Nat):Option Nat:=(List.range' i (n - i)).find? q
theorem firstP_at {q:Nat→Bool} {i k n:Nat} (hik:i≤k) (hk:k < n) (hb:∀ j,i≤j→j < k→q j=false) (he:q k=true):firstP q i n=some k:=by
 unfold firstP
 obtain ⟨d,rfl⟩:∃ d,k=i+d:=⟨k - i,by omega⟩
 induction d generalizing i with
 | zero =>
  obtain ⟨m,hm⟩:∃ m,n - i=m+1:=⟨n - i - 1,by omega⟩
  rw [hm,List.range'_succ,List.find?_cons,show q i=true from he]
  rfl
 | succ d ih =>
  obtain ⟨m,hm⟩:∃ m,n - i=m+1:=⟨n - i - 1,by omega⟩
  rw [hm,List.range'_succ,List.find?_cons,hb i (Nat.le_refl _) (by omega)]
  have:=ih (i:=i+1) (by omega) (by omega) (fun j h1 h2=>hb j (by omega) (by omega)) (by rwa [show i+1+d=i+(d+1) by omega])
  rw [show n - (i+1)=m by omega] at this
  rw [show i+(d+1)=i+1+d by omega]
  exact this
theorem firstP_none {q:Nat→Bool} {i n:Nat} (hb:∀ j,i≤j→j < n→q j=false):firstP q i n=none:=by
 unfold firstP
 rw [List.find?_eq_none]
 intro j hj
 rw [List.mem_range'_1] at hj
 rw [hb j hj.1 (by omega)];simp
theorem firstP_some {q:Nat→Bool} {i n k:Nat} (h:firstP q i n=some k):i≤k∧k < n∧q k=true:=by
 unfold firstP at h
 have h1:=List.find?_some h
 have h2:=List.mem_of_find?_eq_some h
 rw [List.mem_range'_1] at h2
 exact ⟨h2.1,by omega,h1⟩
def occS (t w:Str) (j:Nat):Bool:=decide ((t.drop j).take w.length=w)
def findS (t w:Str) (i:Nat):Option Nat:=firstP (occS t w) i t.length
theorem occS_room {t w:Str} {j:Nat} (h:occS t w j=true) (hw:w≠[]):j+w.length≤t.length∧j < t.length:=by
 have h:=of_decide_eq_true h
 have hl:=congrArg List.length h
 rw [List.length_take,List.length_drop] at hl
 have:=List.length_pos_iff.2 hw
 omega
theorem occAt_eq {t w:Str} (i j:Nat):occAt (t.drop i) w j=occS t w (i+j):=by
 unfold occAt occS
 rw [List.drop_drop]
 generalize t.drop (i+j)=s
 rw [Bool.eq_iff_iff,List.isPrefixOf_iff_prefix,decide_eq_true_iff,List.prefix_iff_eq_take]
 exact eq_comm
theorem index_find {t w:Str} {i:Nat} (hi:i≤t.length) (hw:w≠[]):index (t.drop i) w=match findS t w i with
  | some k=>(k:Int) - i
  | none=>-1:=by
 cases h:findS t w i with
 | some k =>
  obtain ⟨h1,h2,h3⟩:=firstP_some h
  have hb:∀ j,j < k - i→occAt (t.drop i) w j=false:=fun j hj=>by
   rw [occAt_eq]
   cases hc:occS t w (i+j) with
   | false=>rfl
   | true =>
    exfalso
    -- an earlier one would have been found
    have hlt:i+j < k:=by omega
    unfold findS firstP at h
    have:=List.find?_eq_some_iff_append.1 h
    obtain ⟨_,xs,ys,he,hall⟩:=this
    have hm:i+j∈xs:=by
     have hmem:i+j∈List.range' i (t.length - i):=by rw [List.mem_range'_1];omega
     rw [he,List.mem_append,List.mem_cons] at hmem
     rcases hmem with hm | hm | hm
     ·exact hm
     ·omega
     ·exfalso
      have hp:(xs++k :: ys).Pairwise (· < ·):=by rw [← he];exact List.pairwise_lt_range'
      rw [List.pairwise_append] at hp
      have:=List.rel_of_pairwise_cons hp.2.1 hm
      omega
    have:=hall _ hm
    rw [hc] at this;simp at this
  have:=index_first (s:=t.drop i) (sub:=w) (i:=k - i) (by rw [List.length_drop];omega) (by rw [occAt_eq,show i+(k - i)=k by omega];exact h3) hb
  rw [this];simp only;omega
 | none =>
  have:index (t.drop i) w=-1:=index_none fun j hj=>by
   rw [occAt_eq]
   cases hc:occS t w (i+j) with
   | false=>rfl
   | true =>
    exfalso
    have hr:=occS_room hc hw
    unfold findS firstP at h
    rw [List.find?_eq_none] at h
    have:=h (i+j) (by rw [List.mem_range'_1];omega)
    exact this hc
  rw [this]
def endT (t:Str) (i:Nat) (w:Str):Nat × Nat:=match findS t w i with
 | some k=>(k,k+w.length)
 | none=>(t.length,t.length)
def blankL:Str:=[32,9,10,12,13]
def blankB (c:UInt8):Bool:=blankL.contains c
def sliceS (t:Str) (i j:Nat):Str:=(t.take j).drop i
def rawP (t raw:Str) (i:Nat):Bool:=decide (t.getD i 0=60)&&(decide (t.getD (i+1) 0=47)&&(decide (lowS (sliceS t (i+2) (i+2+raw.length))=raw)&&(blankB (t.getD (i+2+raw.length) 0) || (decide (t.getD (i+2+raw.length) 0=47) || decide (t.getD (i+2+raw.length) 0=62)))))
def rawEndS (t:Str) (i:Nat) (raw:Str):Nat:=(firstP (rawP t raw) i (t.length - 2 - raw.length)).getD t.length
def numE (w:Str):Option Nat:=match numS w with
 | some n=>if 1≤n∧n≤126 then some n.toNat else none
 | none=>none
def escN (t:Str):UInt8 × Nat :=
 if ((t.take 6).drop 2).contains 59 then match numE (((t.take 6).drop 2).takeWhile fun c=>!decide (c=59)) with
  | some n=>(UInt8.ofNat n,(((t.take 6).drop 2).takeWhile fun c=>!decide (c=59)).length+3)
  | none=>(0,0)
 else (0,0)
def escL:List (Str × UInt8):=[([38,97,109,112,59],38),([38,108,116,59],60),([38,103,116,59],62),([38,113,117,111,116,59],34)]
def escS (t:Str):UInt8 × Nat:=match escL.find? fun e=>preS t e.1 with
 | some e=>(e.2,e.1.length)
 | none=>if preS t [38,35]=true then escN t else (0,0)
def unS (t:Str):Str:=match t with
 | []=>[]
 | x :: r=>if h:0 < (escS (x :: r)).2 then (escS (x :: r)).1 :: unS ((x :: r).drop (escS (x :: r)).2) else x :: unS r
 termination_by t.length
 decreasing_by
 ·rw [List.length_drop];simp only [List.length_cons];omega
 ·simp
def nameStop (c:UInt8):Bool:=blankB c || (decide (c=47) || (decide (c=62) || decide (c=61)))
def tagStop (c:UInt8):Bool:=blankB c || (decide (c=47) || decide (c=62))
def notBl (c:UInt8):Bool:=!blankB c
def notBs (c:UInt8):Bool:=!(blankB c || decide (c=47))
def valStop (c:UInt8):Bool:=blankB c || decide (c=62)
def isB (q:UInt8) (c:UInt8):Bool:=decide (c=q)
def attrS (t:Str) (i:Nat):Str × Str × Nat :=
 let e:=scanU nameStop t (i+1)
 let m:=lowS (sliceS t i e)
 let k:=scanU notBl t e
 if k < t.length∧t.getD k 0=61 then
  let a:=scanU notBl t (k+1)
  if a < t.length∧(t.getD a 0=34∨t.getD a 0=39) then
   let q:=scanU (isB (t.getD a 0)) t (a+1)
   if q < t.length then (m,unS (sliceS t (a+1) q),q+1) else (m,[],t.length)
  else (m,unS (sliceS t a (scanU valStop t a)),scanU valStop t a)
 else (m,[],e)
def attrI (t:Str) (i:Nat):Str × Str × Nat × Bool :=
 let e:=scanU nameStop t (i+1)
 let m:=lowS (sliceS t i e)
 let k:=scanU notBl t e
 if k=t.length∨t.getD k 0≠61 then (m,[],k,true) else
  let a:=scanU notBl t (k+1)
  if a=t.length then (m,[],a,true) else
  if t.getD a 0=34∨t.getD a 0=39 then
   let q:=scanU (isB (t.getD a 0)) t (a+1)
   if q=t.length then (m,[],q,false) else (m,unS (sliceS t (a+1) q),q+1,true)
  else (m,unS (sliceS t a (scanU valStop t a)),scanU valStop t a,true)
theorem unS_nil:unS []=[]:=by rw [unS]
theorem slice_nil (t:Str) (i:Nat):sliceS t i i=[]:=by
 unfold sliceS;exact List.drop_eq_nil_of_le (by rw [List.length_take];omega)
theorem attr_rel {t:Str} {i:Nat} (h:i < t.length):(attrI t i).1=(attrS t i).1∧i < (attrS t i).2.2∧(attrS t i).2.2≤t.length ∧
  ((attrI t i).2.2.2=true→(attrI t i).2.1=(attrS t i).2.1∧(attrS t i).2.2≤(attrI t i).2.2.1∧(attrI t i).2.2.1≤t.length∧∀ j,(attrS t i).2.2≤j→j < (attrI t i).2.2.1→blankB (t.getD j 0)=true) ∧
  ((attrI t i).2.2.2=false→(attrS t i).2.2=t.length):=by
 have h1:=scanU_ge nameStop t (i+1)
 have h2:=scanU_le nameStop (t:=t) (i:=i+1) (by omega)
 unfold attrI attrS
 dsimp only
 generalize scanU nameStop t (i+1)=e at *
 have h3:=scanU_ge notBl t e
 have h4:=scanU_le notBl h2
 have h5:∀ j,e≤j→j < scanU notBl t e→blankB (t.getD j 0)=true:=fun j a b=>by
  have:=scanU_no a b
  simpa [notBl] using this
 generalize scanU notBl t e=k at *
 by_cases hk:k=t.length∨t.getD k 0≠61
 ·have hk':¬ (k < t.length∧t.getD k 0=61):=fun c=>by
   rcases hk with hk | hk
   ·omega
   ·exact hk c.2
  simp only [if_pos hk,if_neg hk']
  exact ⟨trivial,by omega,h2,fun _=>⟨trivial,h3,h4,h5⟩,fun c=>by cases c⟩
 ·obtain ⟨k1,k2⟩:=not_or.1 hk
  have k2:t.getD k 0=61:=Classical.not_not.1 k2
  have hkl:k < t.length:=by omega
  have a1:=scanU_ge notBl t (k+1)
  have a2:=scanU_le notBl (t:=t) (i:=k+1) (by omega)
  simp only [if_neg hk,if_pos (And.intro hkl k2)]
  generalize scanU notBl t (k+1)=a at *
  by_cases ha:a=t.length
  ·have hv:scanU valStop t a=a:=scanU_out (by omega)
   have hn:¬ (a < t.length∧(t.getD a 0=34∨t.getD a 0=39)):=fun c=>by omega
   simp only [if_pos ha,if_neg hn,hv,slice_nil,unS_nil]
   exact ⟨trivial,by omega,a2,fun _=>⟨trivial,Nat.le_refl _,a2,fun j b c=>by omega⟩,fun c=>by cases c⟩
  ·have hal:a < t.length:=by omega
   by_cases hq:t.getD a 0=34∨t.getD a 0=39
   ·have q1:=scanU_ge (isB (t.getD a 0)) t (a+1)
    have q2:=scanU_le (isB (t.getD a 0)) (t:=t) (i:=a+1) (by omega)
    simp only [if_neg ha,if_pos hq,if_pos (And.intro hal hq)]
    generalize scanU (isB (t.getD a 0)) t (a+1)=q at *
    by_cases hql:q=t.length
    ·have hn:¬ q < t.length:=by omega
     simp only [if_pos hql,if_neg hn]
     exact ⟨trivial,h,Nat.le_refl _,fun c=>(by cases c),fun _=>trivial⟩
    ·have hn:q < t.length:=by omega
     simp only [if_neg hql,if_pos hn]
     exact ⟨trivial,by omega,by omega,fun _=>⟨trivial,Nat.le_refl _,by omega,fun j b c=>by omega⟩,fun c=>(by cases c)⟩
   ·have v1:=scanU_ge valStop t a
    have v2:=scanU_le valStop a2
    have hn:¬ (a < t.length∧(t.getD a 0=34∨t.getD a 0=39)):=fun c=>hq c.2
    simp only [if_neg ha,if_neg hq,if_neg hn]
    exact ⟨trivial,by omega,v2,fun _=>⟨trivial,Nat.le_refl _,v2,fun j b c=>by omega⟩,fun c=>(by cases c)⟩
def keepT (l:List Attr) (a:Attr):List Attr:=if attrsOK (l++[a])=true then l++[a] else l
def opS (t:Str):Nat→Nat→Bool→List Attr→Option (Nat × Bool × List Attr)
 | 0,_,_,_=>none
 | f+1,i,s,l=>if i < t.length then
   if t.getD i 0=62 then some (i,s,l)
   else if (blankB (t.getD i 0) || decide (t.getD i 0=47))=true then opS t f (i+1) (decide (t.getD i 0=47)) l
   else opS t f (attrS t i).2.2 false (keepT l ⟨(attrS t i).1,(attrS t i).2.1⟩)
  else none
theorem opS_fuel (t:Str):∀ (f g i:Nat) (s:Bool) (l:List Attr),t.length - i < f→t.length - i < g→opS t f i s l=opS t g i s l
 | 0,_,_,_,_,h,_=>by omega
 | _,0,_,_,_,_,h=>by omega
 | f+1,g+1,i,s,l,hf,hg=>by
  rw [opS,opS]
  by_cases h:i < t.length
  ·rw [if_pos h,if_pos h]
   by_cases h1:t.getD i 0=62
   ·rw [if_pos h1,if_pos h1]
   ·rw [if_neg h1,if_neg h1]
    split
    ·exact opS_fuel t f g _ _ _ (by omega) (by omega)
    ·have:=(attr_rel h).2.1
     exact opS_fuel t f g _ _ _ (by omega) (by omega)
  ·rw [if_neg h,if_neg h]
def opT (t:Str) (i:Nat) (s:Bool) (l:List Attr):Option (Nat × Bool × List Attr):=opS t (t.length+1) i s l
theorem opT_eq (t:Str) (i:Nat) (s:Bool) (l:List Attr):opT t i s l=if i < t.length then
   if t.getD i 0=62 then some (i,s,l)
   else if (blankB (t.getD i 0) || decide (t.getD i 0=47))=true then opT t (i+1) (decide (t.getD i 0=47)) l
   else opT t (attrS t i).2.2 false (keepT l ⟨(attrS t i).1,(attrS t i).2.1⟩)
  else none:=by
 unfold opT
 conv=>lhs;rw [opS]
 by_cases h:i < t.length
 ·rw [if_pos h,if_pos h]
  by_cases h1:t.getD i 0=62
  ·rw [if_pos h1,if_pos h1]
  ·rw [if_neg h1,if_neg h1]
   split
   ·exact opS_fuel t _ _ _ _ _ (by omega) (by omega)
   ·have:=(attr_rel h).2.1
    exact opS_fuel t _ _ _ _ _ (by omega) (by omega)
 ·rw [if_neg h,if_neg h]
theorem b62:(blankB 62 || decide ((62:UInt8)=47))=false:=by decide
theorem opT_skip {t:Str}:∀ (d i:Nat) (s:Bool) (l:List Attr),scanU notBs t i=i+d→opT t i s l=opT t (i+d) (if d=0 then s else decide (t.getD (i+d - 1) 0=47)) l
 | 0,i,s,l,_=>rfl
 | d+1,i,s,l,h=>by
  have hlt:i < t.length:=by
   rcases Nat.lt_or_ge i t.length with h' | h'
   ·exact h'
   ·rw [scanU_out h'] at h;omega
  have hp:notBs (t.getD i 0)=false:=scanU_no (Nat.le_refl _) (by omega)
  have hb:(blankB (t.getD i 0) || decide (t.getD i 0=47))=true:=by
   unfold notBs at hp
   cases hx:(blankB (t.getD i 0) || decide (t.getD i 0=47)) with
   | true=>rfl
   | false=>rw [hx] at hp;cases hp
  have hn:t.getD i 0≠62:=fun e=>by rw [e,b62] at hb;cases hb
  rw [scanU_go hlt hp] at h
  rw [opT_eq,if_pos hlt,if_neg hn,if_pos hb,opT_skip d (i+1) _ l (by omega),if_neg (Nat.succ_ne_zero d),show i+1+d=i+(d+1) by omega]
  by_cases hd:d=0
  ·subst hd;rfl
  ·rw [if_neg hd]
theorem opT_scan (t:Str) (i:Nat) (s:Bool) (l:List Attr):opT t i s l=opT t (scanU notBs t i) (if scanU notBs t i=i then s else decide (t.getD (scanU notBs t i - 1) 0=47)) l:=by
 have h:=scanU_ge notBs t i
 obtain ⟨d,hd⟩:∃ d,scanU notBs t i=i+d:=⟨scanU notBs t i - i,by omega⟩
 rw [opT_skip d i s l hd,hd]
 congr 1
 by_cases h0:d=0
 ·subst h0;simp
 ·rw [if_neg h0,if_neg (by omega)]
theorem opT_blanks {t:Str} {i j:Nat} (hij:i≤j) (hj:j≤t.length) (hb:∀ k,i≤k→k < j→blankB (t.getD k 0)=true) (l:List Attr):opT t i false l=opT t j false l:=by
 have hs:scanU notBs t i=scanU notBs t j:=by
  obtain ⟨h1,h2,h3,h4⟩:=scanU_spec notBs t _ j rfl
  refine scanU_at (by omega) (h2 hj) (fun k a b=>?_) (fun a=>h4 a)
  rcases Nat.lt_or_ge k j with h | h
  ·unfold notBs;rw [hb k a h];rfl
  ·exact h3 k h b
 rw [opT_scan t i,opT_scan t j,hs]
 congr 1
 have hge:=scanU_ge notBs t j
 by_cases h1:scanU notBs t j=j
 ·by_cases h2:j=i
  ·rw [h2]
  ·rw [if_pos h1,h1,if_neg h2,decide_eq_false]
   intro e
   have:=hb (j - 1) (by omega) (by omega)
   rw [e] at this
   revert this;decide
 ·rw [if_neg h1,if_neg (by omega)]
def noTok (i e:Nat):Tokn:=⟨5,i,(e:Int) - i,[],[],[],false⟩
def openS (t:Str) (i:Nat):Tokn:=match opT t (scanU tagStop t (i+1)) false [] with
 | some q=>if tagOK (lowS (sliceS t (i+1) (scanU tagStop t (i+1))))=true then ⟨2,i,(q.1:Int)+1 - i,lowS (sliceS t (i+1) (scanU tagStop t (i+1))),[],q.2.2,q.2.1⟩ else noTok i (q.1+1)
 | none=>noTok i t.length
def closeS (t:Str) (i:Nat):Tokn:=match findS t [62] (scanU tagStop t (i+2)) with
 | some k=>if tagOK (lowS (sliceS t (i+2) (scanU tagStop t (i+2))))=true then ⟨3,i,(k:Int)+1 - i,lowS (sliceS t (i+2) (scanU tagStop t (i+2))),[],[],false⟩ else noTok i (k+1)
 | none=>noTok i t.length
def commS (t:Str) (i b:Nat) (w:Str):Tokn:=⟨4,i,((endT t b w).2:Int) - i,[],sliceS t b (endT t b w).1,[],false⟩
def wordS (t:Str) (i:Nat):Tokn:=⟨1,i,(scanU (isB 60) t (i+1):Int) - i,[],unS (sliceS t i (scanU (isB 60) t (i+1))),[],false⟩
def letterB (c:UInt8):Bool:=rngB c 97 122 || rngB c 65 90
def nextS (t:Str) (i:Nat) (raw:Str):Tokn :=
 if raw≠[]∧i < rawEndS t i raw then ⟨1,i,(rawEndS t i raw:Int) - i,[],sliceS t i (rawEndS t i raw),[],false⟩
 else if t.getD i 0=60∧i+1 < t.length then
  if letterB (t.getD (i+1) 0)=true then openS t i
  else if t.getD (i+1) 0=47∧i+2 < t.length∧letterB (t.getD (i+2) 0)=true then closeS t i
  else if occS t [60,33,45,45] i=true then commS t i (i+4) [45,45,62]
  else if t.getD (i+1) 0=33∨t.getD (i+1) 0=63∨t.getD (i+1) 0=47 then commS t i (i+2) [62]
  else wordS t i
 else wordS t i
end Go.Ab
