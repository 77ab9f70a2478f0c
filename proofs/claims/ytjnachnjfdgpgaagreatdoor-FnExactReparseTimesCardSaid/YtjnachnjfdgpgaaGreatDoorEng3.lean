import Derived.Test.YtjnachnjfdgpgaaGreatDoorEng2
import Derived.Deep.Upon
import Derived.Orders
import Derived.Carry
set_option linter.all false
namespace Go.Ab
open Go
variable [GI]
def Split (ety:K→TypeId) (w:World) (l:List Node) (p:List Int) (v:Value) (F:Nat→Prop) (r:Value) (x:Node):Prop :=
 ∃ (g b:Nat) (arr:Array Value) (t:TypeId) (fz:Nat × Nat) (fs:Nat→Nat→Prop) (F':Nat→Prop),r=.pointer (some ⟨g,b,none⟩)∧w.heap[g]?=some (.cells arr t fz)∧Unf 6 arr.size fz∧b+6≤arr.size ∧
  (∀ (j:Nat) (cd:CD) (u:Value),(elemCD ety .node x)[j]?=some cd→arr[b+j]?=some u→Own w cd u (fs j))∧(∀ j k c,j < 6→k < 6→fs j c→fs k c→j=k)∧(∀ j c,j < 6→fs j c→¬ F' c)∧F' g ∧
  (∀ c,F' c→F c)∧(∀ j c,j < 6→fs j c→F c)∧Wand ety w l p v F' g b arr t fz
theorem atP_one {l:List Node} {i:Int} (h:0≤i∧i.toNat < l.length):atP l [i]=some (l.getD i.toNat (Node.mk 0 0 [] [] [] [])):=by rw [atP,if_pos h]
theorem atP_two {l:List Node} {i j:Int} {q:List Int} (h:0≤i∧i.toNat < l.length):atP l (i :: j :: q)=atP (Node.kids (l.getD i.toNat (Node.mk 0 0 [] [] [] []))) (j :: q):=by rw [atP,if_pos h]
theorem atP_out {l:List Node} {i:Int} {q:List Int} (h:¬ (0≤i∧i.toNat < l.length)):atP l (i :: q)=none:=by cases q<;>rw [atP,if_neg h]
theorem putP_one {l:List Node} {i:Int} {x:Node} (h:0≤i∧i.toNat < l.length):putP l [i] x=l.set i.toNat x:=by rw [putP,if_pos h]
def setK (x:Node) (ks:List Node):Node:=match x with | .mk k s n t a _=>.mk k s n t a ks
theorem putP_two {l:List Node} {i j:Int} {q:List Int} {x:Node} (h:0≤i∧i.toNat < l.length):putP l (i :: j :: q) x=l.set i.toNat (setK (l.getD i.toNat (Node.mk 0 0 [] [] [] [])) (putP (Node.kids (l.getD i.toNat (Node.mk 0 0 [] [] [] []))) (j :: q) x)):=by
 rw [putP,if_pos h]
 show l.set _ _=_
 congr 1
 generalize l.getD i.toNat (Node.mk 0 0 [] [] [] [])=y
 cases y
 rfl
theorem putP_out {l:List Node} {i:Int} {q:List Int} {x:Node} (h:¬ (0≤i∧i.toNat < l.length)):putP l (i :: q) x=l:=by cases q<;>rw [putP,if_neg h]
theorem setK_cd (ety:K→TypeId) (y:Node) (ks:List Node) (j:Nat):(elemCD ety .node (setK y ks))[j]?=if j=5 then some (dataCD ety ⟨.node,ks⟩) else (elemCD ety .node y)[j]?:=by
 have e1:elemCD ety .node (setK y ks)=nodeCD ety (setK y ks):=rfl
 have e2:elemCD ety .node y=nodeCD ety y:=rfl
 rw [e1,e2,nodeCD_eq,nodeCD_eq]
 have h0:(setK y ks).kind=y.kind∧(setK y ks).space=y.space∧(setK y ks).name=y.name∧(setK y ks).text=y.text∧(setK y ks).attrs=y.attrs∧(setK y ks).kids=ks:=by cases y;exact ⟨rfl,rfl,rfl,rfl,rfl,rfl⟩
 obtain ⟨a1,a2,a3,a4,a5,a6⟩:=h0
 rw [a1,a2,a3,a4,a5,a6]
 match j with
 | 0=>rfl
 | 1=>rfl
 | 2=>rfl
 | 3=>rfl
 | 4=>rfl
 | 5=>rfl
 | j+6=>simp
theorem putP_none:∀ {p:List Int} {l:List Node} {x:Node},atP l p=none→putP l p x=l
 | [],l,x,_=>rfl
 | i :: q,l,x,h=>by
  by_cases hi:0≤i∧i.toNat < l.length
  ·match q,h with
   | [],h=>rw [atP_one hi] at h;cases h
   | j :: q,h =>
    rw [atP_two hi] at h
    rw [putP_two hi,putP_none h]
    have e:∀ y:Node,setK y y.kids=y:=fun y=>by cases y;rfl
    rw [e]
    apply List.ext_getElem?
    intro k
    rw [List.getElem?_set]
    split
    ·rename_i hk;subst hk;rw [if_pos hi.2];simp [List.getD,hi.2]
    ·rfl
  ·exact putP_out hi
theorem own_split {ety:K→TypeId} {w:World}:∀ {p:List Int} {l:List Node} {v o r:Value} {F:Nat→Prop},Own w (dataCD ety ⟨.node,l⟩) v F→FR w v o p r→p≠[] →
  (atP l p=none∧r=.pointer none)∨∃ x,atP l p=some x∧Split ety w l p v F r x
 | [],_,_,_,_,_,_,_,h=>absurd rfl h
 | i :: q,l,v,o,r,F,ho,hf,_=>by
  have hoo:Own w (.sl (ety .node) 6 (l.map (elemCD ety .node))) v F:=ho
  cases hoo with
  | sl e n els v xs fs F ho' hn hr hb hd hF =>
  rw [List.length_map] at ho'
  have hsh:∀ {A:Option Addr} {n c:Nat},v=.slice A n c→n=l.length:=fun {A n c} hv=>by
   rcases ho'.2 with ⟨h1,h2⟩ | ⟨g,cap,cur,fz,h1,_⟩
   ·rw [hv] at h1;injection h1 with _ h1;omega
   ·rw [hv] at h1;injection h1
  cases hf with
  | out A n c o i q h =>
   have:=hsh rfl
   subst this
   exact .inl ⟨atP_out (fun hh=>h ⟨hh.1,by omega⟩),rfl⟩
  | step g a n c o i q v' r h0 h1 hcl hr' =>
   have:=hsh rfl
   subst this
   have hi:0≤i∧i.toNat < l.length:=⟨h0,by omega⟩
   have hxl:xs.length=l.length * 6:=ho'.1
   have hrow:(i.toNat+1) * 6≤l.length * 6:=Nat.mul_le_mul_right _ hi.2
   rcases ho'.2 with ⟨hv,_⟩ | ⟨g',cap,cur,fz,hv,⟨t,hg,htg⟩,hfz,hcap,hmax,hsz,htk⟩
   ·cases hv
   obtain ⟨rfl,rfl,rfl⟩:g=g'∧a=0∧c=cap:=by injection hv with e1 _ e2;injection e1 with e1;injection e1 with e1 e3;exact ⟨e1,e3,e2⟩
   have hcur:l.length * 6≤cur.size:=by rw [hsz];exact Nat.mul_le_mul_right _ hcap
   have hxg:∀ k,k < l.length * 6→xs[k]?=cur[k]?:=fun k hk=>by rw [← htk,List.getElem?_take,if_pos hk,Array.getElem?_toList]
   have hob:(Value.slice (some ⟨g,0,none⟩) l.length c).ownBlock=some g:=rfl
   have hflat:∀ {xs:List Node} {j:Nat},j < xs.length * 6→∃ x,xs[j / 6]?=some x∧(xs.map (elemCD ety .node)).flatten[j]?=(elemCD ety .node x)[j % 6]?∧j % 6 < 6:=fun {xs j} hj=>flat_at (X:=ctx0 ety w (fun _=>False)) (k:=.node) (xs:=xs) hj
   have hgi:l[i.toNat]?=some (l.getD i.toNat (Node.mk 0 0 [] [] [] [])):=by simp [List.getD,hi.2]
   generalize hy:l.getD i.toNat (Node.mk 0 0 [] [] [] [])=y at hgi
   -- a cell of the element
   have hcell:∀ (j:Nat) (cd:CD) (u:Value),(elemCD ety .node y)[j]?=some cd→cur[i.toNat * 6+j]?=some u→Own w cd u (fs (i.toNat * 6+j)):=fun j cd u hj hu=>by
    have hj6:j < 6:=by have:=(List.getElem?_eq_some_iff.1 hj).1;rw [elemCD_len] at this;exact this
    refine hr _ cd u ?_ (by rw [hxg _ (by omega)];exact hu)
    exact flatten_get (n:=6) (fun row hr=>by obtain ⟨x,_,rfl⟩:=List.mem_map.1 hr;exact elemCD_len ety .node x) (by rw [List.getElem?_map,hgi];rfl) hj
   have hmk:∀ (w':World) (arr':Array Value) (z:Node) (fs2:Nat→Nat→Prop) (F2:Nat→Prop),w'.heap[g]?=some (.cells arr' t fz)→arr'.size=cur.size→(∀ (j:Nat) (cd:CD) (u:Value),((l.set i.toNat z).map (elemCD ety .node)).flatten[j]?=some cd→arr'[j]?=some u→j < l.length * 6→Own w' cd u (fs2 j)) →
     (∀ j c,j < l.length * 6→fs2 j c→c≠g)→(∀ j k c,j < l.length * 6→k < l.length * 6→fs2 j c→fs2 k c→j=k)→(∀ c,F2 c↔c=g∨∃ j,j < l.length * 6∧fs2 j c) →
     Own w' (dataCD ety ⟨.node,l.set i.toNat z⟩) (.slice (some ⟨g,0,none⟩) l.length c) F2:=by
    intro w' arr' z fs2 F2 b1 b2 b3 b4 b5 b6
    have hl2:(arr'.toList.take (l.length * 6)).length=l.length * 6:=by have:=Array.length_toList (xs:=arr');rw [List.length_take];omega
    show Own w' (.sl (ety .node) 6 ((l.set i.toNat z).map (elemCD ety .node))) _ F2
    refine .sl _ _ _ _ (arr'.toList.take (l.length * 6)) fs2 _ ⟨?_,.inr ⟨g,c,arr',fz,?_,⟨t,b1,htg⟩,by rw [b2];exact hfz,?_,hmax,by rw [b2];exact hsz,?_⟩⟩ (fun row hr=>by obtain ⟨x,_,rfl⟩:=List.mem_map.1 hr;exact elemCD_len ety .node x) (fun k cd u hk hu=>?_) (fun k c hk hc=>?_) (fun j k c hj hk=>b5 j k c (by rw [hl2] at hj;exact hj) (by rw [hl2] at hk;exact hk)) (fun c=>?_)
    ·rw [hl2,List.length_map,List.length_set]
    ·rw [List.length_map,List.length_set]
    ·rw [List.length_map,List.length_set];exact hcap
    ·rw [List.length_map,List.length_set]
    ·rw [List.getElem?_take] at hu
     split at hu
     ·exact b3 k cd u hk (by simpa using hu) (by assumption)
     ·cases hu
    ·rw [hob];intro e;cases e;exact b4 k _ (by rw [hl2] at hk;exact hk) hc rfl
    ·rw [b6 c,hob,hl2]
     exact ⟨fun h=>h.imp (fun h=>by rw [h]) id,fun h=>h.imp (fun h=>by cases h;rfl) id⟩
   match q,hr' with
   | [],hr' =>
    cases hr'
    refine .inr ⟨y,by rw [atP_one hi,hy],g,0+i.toNat * 6,cur,t,fz,fun j=>fs (i.toNat * 6+j),fun c=>c=g∨∃ k,k < xs.length∧k / 6≠i.toNat∧fs k c,rfl,hg,hfz,by omega,fun j cd u hj hu=>hcell j cd u hj (by rw [Nat.zero_add] at hu;exact hu),fun j k c hj hk e1 e2=>?_,fun j c hj e1 e2=>?_,.inl rfl,fun c hc=>(hF c).2 ?_,fun j c hj hc=>(hF c).2 (.inr ⟨_,by omega,hc⟩),?_⟩
    ·have:=hd _ _ c (by omega) (by omega) e1 e2;omega
    ·rcases e2 with e2 | ⟨k,hk,hki,e2⟩
     ·subst e2;exact hb _ _ (by omega) e1 hob
     ·have:=hd _ _ c (by omega) hk e1 e2
      exact hki (by rw [← this];omega)
    ·rcases hc with hc | ⟨k,hk,_,hc⟩
     ·subst hc;exact .inl hob
     ·exact .inr ⟨k,hk,hc⟩
    ·intro w' arr' x us fs' b1 b2 b3 b4 b5 b6 b7 b8 b9
     rw [Nat.zero_add] at b3 b5
     rw [putP_one hi]
     refine hmk w' arr' x (fun k c=>(k / 6=i.toNat∧fs' (k % 6) c)∨(k / 6≠i.toNat∧fs k c)) _ b1 b2 (fun j cd u hj hu hjl=>?_) (fun j c hj hc=>?_) (fun j k c hj hk e1 e2=>?_) (fun c=>?_)
     ·obtain ⟨x0,hx0,hx1,hmod⟩:=hflat (xs:=l.set i.toNat x) (j:=j) (by rw [List.length_set];exact hjl)
      rw [hx1] at hj
      by_cases hji:j / 6=i.toNat
      ·rw [hji,List.getElem?_set_self hi.2] at hx0
       cases hx0
       have hje:j=i.toNat * 6+j % 6:=by omega
       have:=b7 (j % 6) cd u hj (by rw [b5 _ hmod,← hje];exact hu)
       have hh:(fun c=>(j / 6=i.toNat∧fs' (j % 6) c)∨(j / 6≠i.toNat∧fs j c))=fs' (j % 6):=funext fun c=>propext ⟨fun h=>h.elim (fun h=>h.2) (fun h=>absurd hji h.1),fun h=>.inl ⟨hji,h⟩⟩
       rw [hh];exact this
      ·rw [List.getElem?_set_ne (fun h=>hji h.symm)] at hx0
       obtain ⟨x1,hx1',hx2,_⟩:=hflat (xs:=l) hjl
       rw [hx0] at hx1'
       cases hx1'
       rw [← hx2] at hj
       have hh:(fun c=>(j / 6=i.toNat∧fs' (j % 6) c)∨(j / 6≠i.toNat∧fs j c))=fs j:=funext fun c=>propext ⟨fun h=>h.elim (fun h=>absurd h.1 hji) (fun h=>h.2),fun h=>.inr ⟨hji,h⟩⟩
       rw [hh]
       have hu':xs[j]?=some u:=by rw [hxg j hjl,← b3 j (by omega)];exact hu
       refine (hr j cd u hj hu').keep fun c hc=>b6 c (.inr ⟨j,by omega,hji,hc⟩) fun e=>?_
       subst e
       exact hb j _ (by omega) hc hob
     ·rcases hc with ⟨_,hc⟩ | ⟨_,hc⟩
      ·intro e;subst e;exact b9 _ _ (Nat.mod_lt _ (by omega)) hc (.inl rfl)
      ·intro e;subst e;exact hb j _ (by omega) hc hob
     ·rcases e1 with ⟨a1,a2⟩ | ⟨a1,a2⟩<;>rcases e2 with ⟨c1,c2⟩ | ⟨c1,c2⟩
      ·have:=b8 _ _ c (Nat.mod_lt j (by omega)) (Nat.mod_lt k (by omega)) a2 c2;omega
      ·exact absurd (.inr ⟨k,by omega,c1,c2⟩) (b9 _ _ (Nat.mod_lt j (by omega)) a2)
      ·exact absurd (.inr ⟨j,by omega,a1,a2⟩) (b9 _ _ (Nat.mod_lt k (by omega)) c2)
      ·exact hd j k c (by omega) (by omega) a2 c2
     ·constructor
      ·rintro ((h | ⟨k,hk,hki,hc⟩) | ⟨j,hj,hc⟩)
       ·exact .inl h
       ·exact .inr ⟨k,by omega,.inr ⟨hki,hc⟩⟩
       ·exact .inr ⟨i.toNat * 6+j,by omega,.inl ⟨by omega,by rw [show (i.toNat * 6+j) % 6=j by omega];exact hc⟩⟩
      ·rintro (h | ⟨k,hk,⟨_,hc⟩ | ⟨hki,hc⟩⟩)
       ·exact .inl (.inl h)
       ·exact .inr ⟨_,Nat.mod_lt _ (by omega),hc⟩
       ·exact .inl (.inr ⟨k,by omega,hki,hc⟩)
   | i2 :: q,hr' =>
    -- the kids' cell
    have hcv:cur[i.toNat * 6+5]?=some v':=by
     rw [Nat.zero_add,cell_of_row w g _ cur t fz hg] at hcl
     exact hcl
    have hkid:(elemCD ety .node y)[5]?=some (dataCD ety ⟨.node,y.kids⟩):=by
     show (nodeCD ety y)[5]?=_
     rw [nodeCD_eq];rfl
    have hok:=hcell 5 _ v' hkid hcv
    rcases own_split hok hr' (by simp) with ⟨h1,h2⟩ | ⟨x,hx,g2,b2,arr,t2,fz2,fs2,F',k1,k2,k3,k4,k5,k6,k7,k8,k9,k10,kw⟩
    ·exact .inl ⟨by rw [atP_two hi,hy];exact h1,h2⟩
    ·have hgne:g2≠g:=fun e=>by subst e;exact hb _ _ (by omega) (k9 _ k8) hob
     refine .inr ⟨x,by rw [atP_two hi,hy];exact hx,g2,b2,arr,t2,fz2,fs2,fun c=>c=g∨(∃ k,k < xs.length∧k≠i.toNat * 6+5∧fs k c)∨F' c,k1,k2,k3,k4,k5,k6,fun j c hj e1 e2=>?_,.inr (.inr k8),fun c hc=>(hF c).2 ?_,fun j c hj hc=>(hF c).2 (.inr ⟨_,by omega,k10 j c hj hc⟩),?_⟩
     ·rcases e2 with e2 | ⟨k,hk,hki,e2⟩ | e2
      ·subst e2;exact hb _ _ (by omega) (k10 j _ hj e1) hob
      ·exact hki (hd _ _ c hk (by omega) e2 (k10 j c hj e1))
      ·exact k7 j c hj e1 e2
     ·rcases hc with hc | ⟨k,hk,_,hc⟩ | hc
      ·subst hc;exact .inl hob
      ·exact .inr ⟨k,hk,hc⟩
      ·exact .inr ⟨_,by omega,k9 c hc⟩
     ·intro w' arr' x' us fs' b1 b2' b3 b4 b5 b6 b7 b8 b9
      have hW:=kw w' arr' x' us fs' b1 b2' b3 b4 b5 (fun c hc hn=>b6 c (.inr (.inr hc)) hn) b7 b8 (fun j c hj hc hF'=>b9 j c hj hc (.inr (.inr hF')))
      rw [putP_two hi,hy]
      have hg':w'.heap[g]?=some (.cells cur t fz):=by rw [b6 g (.inl rfl) (fun e=>hgne e.symm)];exact hg
      refine hmk w' cur _ (fun k c=>(k=i.toNat * 6+5∧(F' c∨∃ j,j < 6∧fs' j c))∨(k≠i.toNat * 6+5∧fs k c)) _ hg' rfl (fun j cd u hj hu hjl=>?_) (fun j c hj hc=>?_) (fun j k c hj hk e1 e2=>?_) (fun c=>?_)
      ·obtain ⟨x0,hx0,hx1,hmod⟩:=hflat (xs:=l.set i.toNat (setK y (putP y.kids (i2 :: q) x'))) (j:=j) (by rw [List.length_set];exact hjl)
       rw [hx1] at hj
       have hu':xs[j]?=some u:=by rw [hxg j hjl];exact hu
       by_cases hj5:j=i.toNat * 6+5
       ·have hdv:j / 6=i.toNat:=by omega
        rw [hdv,List.getElem?_set_self hi.2] at hx0
        cases hx0
        rw [show j % 6=5 by omega,setK_cd,if_pos rfl] at hj
        cases hj
        have:u=v':=by rw [hj5,hcv] at hu;cases hu;rfl
        subst this
        have hh:(fun c=>(j=i.toNat * 6+5∧(F' c∨∃ j,j < 6∧fs' j c))∨(j≠i.toNat * 6+5∧fs j c))=fun c=>F' c∨∃ j,j < 6∧fs' j c:=funext fun c=>propext ⟨fun h=>h.elim (fun h=>h.2) (fun h=>absurd hj5 h.1),fun h=>.inl ⟨hj5,h⟩⟩
        rw [hh]
        exact hW
       ·have hj':(l.map (elemCD ety .node)).flatten[j]?=some cd:=by
         obtain ⟨x1,hx1',hx2,_⟩:=hflat (xs:=l) hjl
         rw [hx2]
         by_cases hdv:j / 6=i.toNat
         ·rw [hdv,List.getElem?_set_self hi.2] at hx0
          cases hx0
          rw [setK_cd,if_neg (by omega)] at hj
          rw [hdv,hgi] at hx1'
          cases hx1'
          exact hj
         ·rw [List.getElem?_set_ne (fun h=>hdv h.symm),hx1'] at hx0
          cases hx0
          exact hj
        have hh:(fun c=>(j=i.toNat * 6+5∧(F' c∨∃ j,j < 6∧fs' j c))∨(j≠i.toNat * 6+5∧fs j c))=fs j:=funext fun c=>propext ⟨fun h=>h.elim (fun h=>absurd h.1 hj5) (fun h=>h.2),fun h=>.inr ⟨hj5,h⟩⟩
        rw [hh]
        refine (hr j cd u hj' hu').keep fun c hc=>b6 c (.inr (.inl ⟨j,by omega,hj5,hc⟩)) fun e=>?_
        subst e
        exact hj5 (hd j (i.toNat * 6+5) _ (by omega) (by omega) hc (k9 _ k8))
      ·rcases hc with ⟨_,hc | ⟨j',hj',hc⟩⟩ | ⟨_,hc⟩
       ·intro e;subst e;exact hb _ _ (by omega) (k9 _ hc) hob
       ·intro e;subst e;exact b9 j' _ hj' hc (.inl rfl)
       ·intro e;subst e;exact hb j _ (by omega) hc hob
      ·rcases e1 with ⟨a1,a2⟩ | ⟨a1,a2⟩<;>rcases e2 with ⟨c1,c2⟩ | ⟨c1,c2⟩
       ·rw [a1,c1]
       ·rcases a2 with a2 | ⟨j',hj',a2⟩
        ·exact absurd (hd _ _ c (by omega) (by omega) c2 (k9 _ a2)) c1
        ·exact absurd (.inr (.inl ⟨k,by omega,c1,c2⟩)) (b9 j' c hj' a2)
       ·rcases c2 with c2 | ⟨j',hj',c2⟩
        ·exact absurd (hd _ _ c (by omega) (by omega) a2 (k9 _ c2)) a1
        ·exact absurd (.inr (.inl ⟨j,by omega,a1,a2⟩)) (b9 j' c hj' c2)
       ·exact hd j k c (by omega) (by omega) a2 c2
      ·constructor
       ·rintro ((h | ⟨k,hk,hki,hc⟩ | hc) | ⟨j,hj,hc⟩)
        ·exact .inl h
        ·exact .inr ⟨k,by omega,.inr ⟨hki,hc⟩⟩
        ·exact .inr ⟨i.toNat * 6+5,by omega,.inl ⟨rfl,.inl hc⟩⟩
        ·exact .inr ⟨i.toNat * 6+5,by omega,.inl ⟨rfl,.inr ⟨j,hj,hc⟩⟩⟩
       ·rintro (h | ⟨k,hk,⟨_,hc | hc⟩ | ⟨hki,hc⟩⟩)
        ·exact .inl (.inl h)
        ·exact .inl (.inr (.inr hc))
        ·exact .inr hc
        ·exact .inl (.inr (.inl ⟨k,by omega,hki,hc⟩))
section
variable {P:Program} {E:Env} {X Y Z:Ctx} {G:Beg} {o:Oper} {a:Act}
abbrev reserve (X:Ctx) (v:Value):Ctx:={ X with nx:=X.nx+1,ob:=fun n=>if n=X.nx then ⟨v,fun _=>False,.u8⟩ else X.ob n }
theorem reserve_same (v:Value):Same X (reserve X v):=by
 refine ⟨⟨rfl,Nat.le_succ _,fun _ h=>h,fun _ _ _=>rfl,fun n hn=>?_⟩,rfl,rfl⟩
 show (if n=X.nx then _ else X.ob n).v=_∧(if n=X.nx then _ else X.ob n).k=_
 rw [if_neg (by omega)]
 exact ⟨rfl,rfl⟩
theorem reserve_rel (hw:WRel X G) (v:Value):WRel (reserve X v) G:=by
 have hl:∀ n,live (reserve X v) n→live X n∧(reserve X v).ob n=X.ob n:=fun n h=>by
  have h':live X n:=h
  have:=live_lt hw h'
  exact ⟨h',if_neg (by omega)⟩
 refine ⟨fun n=>?_,fun n hn=>hw.nxl n (Nat.le_of_succ_le hn),fun i j b h1 h2 h3 h4=>?_,fun i b h1 h2=>?_,hw.rl,hw.kp,hw.r0,hw.rn,fun i b h1 h2=>?_,hw.gi⟩
 ·by_cases hd:hgt X.hp n=.dead
  ·unfold ObjOk
   rw [show (reserve X v).hp=X.hp from rfl,hd]
   trivial
  ·exact ObjOk.ext (reserve_same v).ext rfl rfl rfl (hl n hd).2 (hw.ob n)
 ·rw [(hl i h1).2] at h3
  rw [(hl j h2).2] at h4
  exact hw.dj i j b h1 h2 h3 h4
 ·rw [(hl i h1).2] at h2
  exact hw.dr i b h1 h2
 ·rw [(hl i h1).2] at h2
  exact hw.fn i b h1 h2
theorem reserve_foot (hw:WRel X G) (v:Value):Foot X (reserve X v) (fun _=>False):=fun n b h1 h2=>by
 have h':live X n:=h1
 have:=live_lt hw h'
 have e:(reserve X v).ob n=X.ob n:=if_neg (by omega)
 rw [e] at h2
 exact .inl ⟨n,h',h2⟩
theorem setZip_rel (hw:WRel X G) {id id2:Nat} {l:List Node} {p:List Int} {cs:List AV} {v:Value} {F:Nat→Prop} {nx:Nat} (hn:X.nx≤nx) (hid:id < nx) (hold:id < X.nx→v=(X.ob id).v∧K.node=(X.ob id).k) (hF:Free X G F) (hid2:id2 < nx) (hne:id2≠id)
  (ho:ZipO (setC X id (.zip l p id2 cs) ⟨v,F,.node⟩ nx) l p cs (X.ob id2).v v F):WRel (setC X id (.zip l p id2 cs) ⟨v,F,.node⟩ nx) G:=by
 refine set_rel hw hn hid hold hF ?_
 unfold ObjOk
 rw [show (setC X id (.zip l p id2 cs) ⟨v,F,.node⟩ nx).hp=hput id (.zip l p id2 cs) X.hp from rfl,hgt_hput,if_pos rfl]
 have e:(setC X id (.zip l p id2 cs) ⟨v,F,.node⟩ nx).ob id=⟨v,F,.node⟩:=if_pos rfl
 have e2:(setC X id (.zip l p id2 cs) ⟨v,F,.node⟩ nx).ob id2=X.ob id2:=if_neg hne
 refine ⟨by rw [e],⟨hid2,hne⟩,?_⟩
 rw [e,e2]
 exact ho
theorem storeZip_sound (hE:EnvOk P E) (hw:WRel X G) {dst ty pos after gd t} {x y:Operand} {e:Operand→AV} (hx:RelV X (e x) (a.eval x)) (hy:RelV X (e y) (a.eval y)) {id id2 off:Nat} (hex:e x=.zlp id id2 off) {l:List Node} {p:List Int} {cs:List AV} (hb:hgt X.hp id=.zip l p id2 cs)
  (hsz:szT (E.td t) (cellsOf (e y)).length=true) (hc1:(isAggV (e y) || isC X.hp (e y))=true) (hc2:areC X.hp (cellsOf (e y))=true) (hfit:off+(cellsOf (e y)).length≤cs.length) :
  OpH P X G ⟨dst,.store t x y,ty,pos,after,gd⟩ a .any (hput id (.zip l p id2 (setAt cs off (cellsOf (e y)))) (hput id .dead X.hp)) X.nx:=by
 rw [hex] at hx
 have hid:id < X.nx:=by cases hx;assumption
 obtain ⟨g,b,hav,hob2,hsome,hFg,_⟩:=zip_cells hw hx hb
 have hoo:=hw.ob id
 unfold ObjOk at hoo
 rw [hb] at hoo
 obtain ⟨hkk,⟨hid2,hne⟩,⟨hcl,hone0⟩,hFl,us,hul,hrel,_,hs⟩:=hoo
 obtain ⟨g',b',arr,tt,fz,a1,a2,a3,a4,a5,a6,a7⟩:=hs hsome
 rw [hob2] at a1
 cases a1
 obtain ⟨h1,h2⟩:=cells_rel hw hy hc1
 have hone:=areC_one hw (us:=(a.eval y).cells.toList) (by simpa using h1.symm) (fun j c u hj hu=>h2 j c u hj (by simpa using hu)) hc2
 obtain ⟨ii,hii,hisz⟩:=szT_ok hE hsz
 have hlen:(a.eval y).cells.toList.length=(cellsOf (e y)).length:=by rw [Array.length_toList,h1]
 have hl:live X id:=by unfold live;rw [hb];simp
 generalize hus2:(a.eval y).cells.toList=us2 at *
 obtain ⟨w',arr',r1,r2,r3,r4,r5⟩:=st_cells (P:=P) (o:=b+off) us2 0 arr X.w a3 a4.1 (by omega) hone
 have hfree:Free (killC X id) G (X.ob id).F:=kill_free hw hl
 have hfreeg:Free (killC X id) G (fun n=>n=g):=hfree.sub fun n hn'=>by rw [hn'];exact a2
 obtain ⟨e1,w1,f1⟩:=world_shows (kill_rel hw id) hfreeg r5
 have hyl:(a.eval y).cells.size=us2.length:=by rw [← hus2,Array.length_toList]
 refine opH_skip (w':=w') ?_ ?_
 ·simp only [execOp,hav,Sem.run_bind,run_storeAt hii (by rw [hisz,hyl,hlen]) (by rw [hus2];exact r1),Result.andThen_ok,Sem.run_pure]
 ·generalize hX1:({ killC X id with w:=w' }:Ctx)=X1 at *
  have xw:X1.w=w':=by rw [← hX1]
  have xh:X1.hp=hput id .dead X.hp:=by rw [← hX1]
  have xn:X1.nx=X.nx:=by rw [← hX1]
  have xe:X1.ety=X.ety:=by rw [← hX1]
  have xo:X1.ob=X.ob:=by rw [← hX1]
  have eX:Ext X X1:=Ext.trans (X:=X) (Y:=killC X id) (Z:=X1) (fun _ _ h=>h) (kill_same id).ext e1
  have hold:id < X1.nx→(X.ob id).v=(X1.ob id).v∧K.node=(X1.ob id).k:=fun _=>by rw [xo];exact ⟨rfl,hkk⟩
  have hsame:=set_same (X:=X1) (id:=id) (ob:=.zip l p id2 (setAt cs off (cellsOf (e y)))) (i:=⟨(X.ob id).v,(X.ob id).F,.node⟩) (nx:=X.nx) (by omega) hold
  have eS:=eX.trans (fun b hb _=>w1.rl b (eX.R b hb)) hsame.ext
  refine ⟨setC X1 id (.zip l p id2 (setAt cs off (cellsOf (e y)))) ⟨(X.ob id).v,(X.ob id).F,.node⟩ X.nx,eS,?_,by show hput _ _ X1.hp=_;rw [xh],rfl,xw,.any _⟩
  refine setZip_rel w1 (by omega) hid hold (f1 _ hfree) hid2 hne ?_
  rw [xo]
  have hbl:off+us2.length≤us.length:=by omega
  refine ⟨⟨by rw [setAt_len hfit,hcl],hone0⟩,fun c hc=>Nat.lt_of_lt_of_le (hFl c hc) ?_,setL us off us2,by rw [setL_len hbl,hul],fun j c u hj hu=>?_,fun h=>(by rw [hsome] at h;cases h),fun _=>⟨g,b,arr',tt,fz,hob2,a2,?_,by rw [r3];exact a4,by rw [r3];exact a5,fun j hj=>?_,?_⟩⟩
  ·show X.w.heap.size≤X1.w.heap.size
   rw [xw];exact r5.size
  ·rw [setAt_get hfit] at hj
   rw [setL_get hbl] at hu
   split at hj
   ·rename_i hjj
    rw [if_pos ⟨by omega,by omega⟩] at hu
    refine ⟨(h2 _ c u hj ?_).ext eS,hone u (List.mem_of_getElem? hu)⟩
    have:(a.eval y).cells.toList[j - off]?=some u:=by rw [hus2];exact hu
    simpa using this
   ·rename_i hjj
    rw [if_neg (fun h=>hjj ⟨by omega,by omega⟩)] at hu
    exact ⟨(hrel j c u hj hu).1.ext eS,(hrel j c u hj hu).2⟩
  ·show X1.w.heap[g]?=_
   rw [xw];exact r2
  ·rw [setL_get hbl,r4 (b+j)]
   by_cases hjj:off≤j∧j < off+us2.length
   ·rw [if_pos hjj,if_pos ⟨by omega,by omega⟩]
    congr 1
    omega
   ·rw [if_neg hjj,if_neg (fun h=>hjj ⟨by omega,by omega⟩)]
    exact a6 j hj
  ·show Wand X1.ety X1.w l p (X.ob id).v (X.ob id).F g b arr' tt fz
   rw [xe,xw]
   intro w2 arr2 x2 us3 fs3 b1 b2 b3 b4 b5 b6 b7 b8 b9
   refine a7 w2 arr2 x2 us3 fs3 b1 (b2.trans r3) (fun i hi=>?_) b4 b5 (fun c hc hn=>(b6 c hc hn).trans (r5.block c (hFl c hc) hn)) b7 b8 b9
   rw [b3 i hi,r4 i,if_neg (by omega)]
end
end Go.Ab
namespace Go.Ab
open Go
variable [GI]
section
variable {P:Program} {E:Env} {X Y Z:Ctx} {G:Beg} {o:Oper} {a:Act}
theorem flat_sc {k:K} (hk:k.flat=true) {x:k.den} {cd:CD} (hm:cd∈elemCD X.ety k x):∃ v,cd=.sc v∧v.oneCell'=true:=by
 rw [elemCD_cells] at hm
 obtain ⟨c,hc,rfl⟩:=List.mem_map.1 hm
 have hp:=elemCells_plain k x c hc
 cases c with
 | dat d=>cases k<;>first | (cases hk;done) | (simp [elemCells] at hc)
 | u8 b=>exact ⟨_,rfl,rfl⟩
 | int k n=>exact ⟨_,rfl,rfl⟩
 | bool b=>exact ⟨_,rfl,rfl⟩
 | str l=>exact ⟨_,rfl,rfl⟩
 | _=>cases hp
theorem flat_cells {k:K} (hk:k.flat=true) {xs:List k.den} {us:List Value} (hl:(xs.map (elemCD X.ety k)).flatten.length=us.length) {w:World} {R:Nat→Prop} (h:∀ (j:Nat) (cd:CD) (u:Value),(xs.map (elemCD X.ety k)).flatten[j]?=some cd→us[j]?=some u→Rep w R cd u) {q:Bool} :
  CellsJ X G q (xs.map (elemCD X.ety k)).flatten us (fun _ _=>False):=by
 refine ⟨hl,fun j cd u hj hu=>?_,fun _ _ _ _ _ h=>h.elim,fun _ _=>.empty⟩
 have hr:=h j cd u hj hu
 obtain ⟨x,hx⟩:=flat_mem hj
 obtain ⟨v,rfl,hv⟩:=flat_sc hk hx
 cases hr
 exact ⟨hv,fun _=>.sc _ _ (fun _ h=>h),.sc _⟩
theorem TakenE.same (hw:WRel X G) {q:Bool} {cds:List CD} {us:List Value} (h:CellsJ X G q cds us (fun _ _=>False)):TakenE X G X.hp q cds us :=
 ⟨fun _ _=>False,hw,.refl X,.refl X,h,fun _ _ _ h=>h.elim⟩
theorem src_sound (hE:EnvOk P E) (hw:WRel X G) {k:K} {tx:TypeId} {x:AV} {vx:Value} (hx:RelV X x vx) {l:List k.den} {q:Bool} {hp2:Hp} (h:appSrc k x X.hp=some (l,q,hp2)) (ht:srcT k (E.td tx)=true) :
  ∃ news,Src P k.esz tx vx l.length news X.w∧TakenE X G hp2 q (l.map (elemCD X.ety k)).flatten news:=by
 have hkind:(∃ e',P.underlying tx=some (.slice e'))∨P.underlying tx=some .string:=by
  have hT:=hE.td tx
  cases htd:E.td tx with
  | sl j =>
   rw [htd] at hT
   obtain ⟨e',_,hu,_⟩:=hT
   exact .inl ⟨e',hu⟩
  | one z =>
   rw [htd] at hT ht
   obtain ⟨d,zv,_,hu,_,_,hc⟩:=hT
   cases z<;>first | (cases ht;done) | (cases hc;exact .inr hu)
  | unk=>rw [htd] at ht;cases ht
  | st n fs z=>rw [htd] at ht;cases ht
 have mk:∀ (A:Option Addr) (cap:Nat) (news:List Value),news.length=l.length * k.esz→(∀ u∈news,u.oneCell'=true)→(news=[]∨∃ b of,A=some ⟨b,of,none⟩∧∀ (j:Nat) (u:Value),news[j]?=some u→X.w.cell? ⟨b,of+j,none⟩=some u)→Src P k.esz tx (.slice A l.length cap) l.length news X.w:=by
  intro A cap news hl h1 hc
  rcases hc with rfl | ⟨b,of,rfl,hc⟩
  ·have hl0:l.length=0:=by
    have h0:0 < k.esz:=by cases k<;>decide
    have h1:l.length * k.esz=0:=hl.symm
    rcases Nat.mul_eq_zero.1 h1 with h | h
    ·exact h
    ·omega
   rw [hl0]
   cases A with
   | none=>exact ⟨hkind,fun _=>rfl,run_firstCells_none X.w k.esz 0 0 cap,run_firstCells_none X.w.drew k.esz 0 0 cap,by simp,fun _ h=>by cases h⟩
   | some ad=>exact ⟨hkind,fun _=>rfl,run_firstCells_some X.w k.esz 0 ad 0 cap [] (by simp) (fun j v hj=>by simp at hj),run_firstCells_some X.w.drew k.esz 0 ad 0 cap [] (by simp) (fun j v hj=>by simp at hj),by simp,fun _ h=>by cases h⟩
  ·have hadd:∀ j,(⟨b,of,none⟩:Addr).add j=⟨b,of+j,none⟩:=fun j=>Addr.add_lit ..
   exact ⟨hkind,fun _=>rfl,run_firstCells_some X.w k.esz l.length _ l.length cap news hl (fun j v hj=>by rw [hadd];exact hc j v hj),run_firstCells_some X.w.drew k.esz l.length _ l.length cap news hl (fun j v hj=>by rw [hadd];exact hc j v hj),hl,h1⟩
 have hrow:∀ xs:List k.den,(xs.map (elemCD X.ety k)).flatten.length=xs.length * k.esz:=fun xs=>by
  rw [flatten_len (n:=k.esz) (fun row hr=>by obtain ⟨x,_,rfl⟩:=List.mem_map.1 hr;exact elemCD_len X.ety k x),List.length_map]
 by_cases hstr:∃ s,x=.str s
 ·obtain ⟨s,rfl⟩:=hstr
  have hk:k=.u8:=by cases k<;>first | rfl | cases h
  subst hk
  cases h
  cases hx
  refine ⟨byteCells ⟨s.toArray⟩,?_,TakenE.same hw bytes_cells⟩
  have hs:=str_size s
  have e1:=firstCells_string (P:=P) ⟨s.toArray⟩ X.w
  have e2:=firstCells_string (P:=P) ⟨s.toArray⟩ X.w.drew
  rw [hs] at e1 e2
  refine ⟨hkind,fun w0=>congrArg (fun n=>Result.ok n w0) hs,e1,e2,by rw [byteCells_length,hs];exact (Nat.mul_one _).symm,fun u hu=>?_⟩
  obtain ⟨_,_,rfl⟩:=List.mem_map.1 hu
  rfl
 by_cases hrw:∃ id,x=.row id
 ·obtain ⟨id,rfl⟩:=hrw
  replace h:(match hgt X.hp id with | .row o d=>(d.asK k).map fun l=>(l,o,if k.flat then X.hp else hput id .dead X.hp) | _=>none)=some (l,q,hp2):=by cases k<;>exact h
  split at h
  ·rename_i q' d hb
   cases hd:d.asK k with
   | none=>rw [hd] at h;cases h
   | some l' =>
    rw [hd] at h
    simp only [Option.map_some,Option.some.injEq,Prod.mk.injEq] at h
    obtain ⟨rfl,rfl,rfl⟩:=h
    have:=asK_eq hd
    subst this
    obtain ⟨us,fs,w1,ho,hc,hne,hfr,hin,_⟩:=openrow hw hx hb
    obtain ⟨A,cap,hv,_,_⟩:=own_shape ho
    have hone:∀ u∈us,u.oneCell'=true:=fun u hu=>by
     obtain ⟨j,hj,rfl⟩:=List.getElem_of_mem hu
     exact (hc.rel j _ _ (List.getElem?_eq_getElem (by rw [hc.len];exact hj)) (List.getElem?_eq_getElem hj)).1
    refine ⟨us,?_,?_⟩
    ·rw [hv]
     refine mk A cap us ho.1 hone ?_
     cases us with
     | nil=>exact .inl rfl
     | cons u0 us0 =>
      obtain ⟨g,cap2,e1,_⟩:=ho.cell (k:=0) (u:=u0) rfl
      rw [hv] at e1
      injection e1 with e1 _ _
      refine .inr ⟨g,0,e1,fun j u hu=>?_⟩
      obtain ⟨g',cap3,e2,_,hcell⟩:=ho.cell hu
      rw [hv,e1] at e2
      injection e2 with e2 _ _
      injection e2 with e2
      injection e2 with e2
      subst e2
      rw [Nat.zero_add]
      exact hcell
    ·split
     ·rename_i hk
      exact TakenE.same hw (flat_cells (w:=X.w) (R:=fun _=>True) hk hc.len fun j cd u hj hu=>((hc.rel j cd u hj hu).2.2).mono fun _ _=>trivial)
     ·exact ⟨fs,w1,kill_same id,kill_foot id,hc,fun j b hj hb'=>⟨id,by unfold live;rw [hb];simp,hin b (.inr ⟨j,hj,hb'⟩)⟩⟩
  ·cases h
 by_cases hdt:∃ d,x=.dat d
 ·obtain ⟨d,rfl⟩:=hdt
  replace h:((d.asK k).map fun l=>(l,k.flat,X.hp))=some (l,q,hp2):=by cases k<;>exact h
  cases hd:d.asK k with
  | none=>rw [hd] at h;cases h
  | some l' =>
   rw [hd] at h
   simp only [Option.map_some,Option.some.injEq,Prod.mk.injEq] at h
   obtain ⟨rfl,rfl,rfl⟩:=h
   have:=asK_eq hd
   subst this
   cases hx with
   | dat d v hr =>
    unfold dataCD at hr
    generalize hels:((⟨k,l'⟩:Data).l.map (elemCD X.ety (⟨k,l'⟩:Data).k))=els at hr
    have hels':l'.map (elemCD X.ety k)=els:=hels
    have hlen:els.length=l'.length:=by rw [← hels',List.length_map]
    cases hr with
    | sl e n els A cap us hcap hn hc hr =>
     have hfl:els.flatten.length=l'.length * k.esz:=by rw [← hels'];exact hrow l'
     let news:List Value:=(List.range els.flatten.length).map us
     have hnl:news.length=els.flatten.length:=by simp [news]
     have hget:∀ (j:Nat) (u:Value),news[j]?=some u→j < els.flatten.length∧u=us j:=by
      intro j u hu
      simp only [news,List.getElem?_map] at hu
      cases hj:(List.range els.flatten.length)[j]? with
      | none=>rw [hj] at hu;cases hu
      | some i =>
       rw [hj] at hu
       obtain ⟨h1,h2⟩:=List.getElem?_eq_some_iff.1 hj
       simp at h1 h2
       cases hu
       exact ⟨by simpa using h1,by rw [h2]⟩
     have hrep:∀ (j:Nat) (cd:CD) (u:Value),els.flatten[j]?=some cd→news[j]?=some u→Rep X.w X.R cd u:=by
      intro j cd u hj hu
      rw [(hget j u hu).2]
      exact hr j cd hj
     have hone:∀ u∈news,u.oneCell'=true:=by
      intro u hu
      obtain ⟨j,hj,rfl⟩:=List.getElem_of_mem hu
      have hj':j < els.flatten.length:=by rw [← hnl];exact hj
      obtain ⟨x,hx⟩:=flat_mem (X:=X) (k:=k) (xs:=l') (j:=j) (cd:=els.flatten[j]) (by rw [hels'];exact List.getElem?_eq_getElem hj')
      exact plain_cell hx (hrep j _ _ (List.getElem?_eq_getElem hj') (List.getElem?_eq_getElem hj))
     refine ⟨news,?_,?_⟩
     ·rw [hlen]
      refine mk A cap news (by rw [hnl,hfl]) hone ?_
      by_cases h0:els.flatten.length=0
      ·exact .inl (List.eq_nil_of_length_eq_zero (by rw [hnl];exact h0))
      ·obtain ⟨b,of,hA,_,_⟩:=hc 0 _ (List.getElem?_eq_getElem (by omega))
       refine .inr ⟨b,of,hA,fun j u hu=>?_⟩
       obtain ⟨hj,hu'⟩:=hget j u hu
       obtain ⟨b',of',hA',_,hcell⟩:=hc j _ (List.getElem?_eq_getElem hj)
       rw [hA] at hA'
       cases hA'
       rw [hu']
       exact hcell
     ·cases hk:k.flat with
      | true =>
       have:=flat_cells (X:=X) (G:=G) (q:=true) hk (xs:=l') (us:=news) (by rw [hels',hnl]) (fun j cd u hj hu=>hrep j cd u (by rw [← hels'];exact hj) hu)
       rw [hels'] at this
       exact TakenE.same hw this
      | false=>exact TakenE.same hw ⟨hnl.symm,fun j cd u hj hu=>⟨hone u (List.mem_of_getElem? hu),(fun hq=>by cases hq),(hrep j cd u hj hu).mono fun _ h=>.inl h⟩,fun _ _ _ _ _ h=>h.elim,fun _ _=>.empty⟩
 by_cases hnl:x=.nilS
 ·subst hnl
  replace h:some (([]:List k.den),true,X.hp)=some (l,q,hp2):=by cases k<;>exact h
  cases h
  cases hx
  refine ⟨[],?_,TakenE.same hw .nil⟩
  exact mk none 0 [] (by simp) (fun _ h=>by cases h) (.inl rfl)
 ·exfalso
  cases x<;>first
   | exact hstr ⟨_,rfl⟩
   | exact hrw ⟨_,rfl⟩
   | exact hdt ⟨_,rfl⟩
   | exact hnl rfl
   | (cases k<;>cases h)
theorem app_core (hw:WRel X G) {k:K} {t tx ty e':TypeId} {i:TypeInfo} {zv:Value} (hte:X.ety k=0∨e'=X.ety k) (hu:P.underlying t=some (.slice e')) (hi:P.info? e'=some i) (hsz:i.size=k.esz) (hz:i.zero=some zv) (hzs:zv.cells.size=k.esz) (hby:i.bytes≤256)
  {xs l:List k.den} {q q':Bool} {v vx:Value} {us news:List Value} {fs gs:Nat→Nat→Prop} (ho:ownR X.w (X.ety k) k.esz v xs.length us) (hfr:Free X G (fun b=>v.ownBlock=some b)) (hc:CellsJ X G q (xs.map (elemCD X.ety k)).flatten us fs)
  (hne:∀ j b,j < us.length→fs j b→v.ownBlock≠some b) (hd:CellsJ X G q' (l.map (elemCD X.ety k)).flatten news gs) (hdj:∀ j i b,j < us.length→i < news.length→fs j b→gs i b→False) (hgb:∀ j b,j < news.length→gs j b→v.ownBlock≠some b)
  (hs:Src P k.esz tx vx l.length news X.w) (hfit:xs.length+l.length≤1073741824) :
  ∃ u w',(Builtin.append_ #[t,tx] ty #[v,vx]).run P X.w=.ok u w'∧Shows X G w' (.row X.nx) u (hput X.nx (.row (q&&q') ⟨k,xs++l⟩) X.hp) (X.nx+1):=by
 have hesz0:0 < k.esz:=by cases k<;>decide
 have hcells:CellsJ X G (q&&q') ((xs++l).map (elemCD X.ety k)).flatten (us++news) (appF us.length fs gs):=by
  rw [List.map_append,List.flatten_append]
  exact (hc.weak (by simp +contextual)).append (hd.weak (by simp +contextual)) hdj
 have husl:us.length=xs.length * k.esz:=ho.1
 have hnl:news.length=l.length * k.esz:=hs.newsLen
 have hone:∀ u∈news,u.oneCell'=true:=hs.one
 have happ:(us++news).length=(xs++l).length * k.esz:=by rw [List.length_append,husl,hnl,List.length_append,Nat.add_mul]
 have hfs:∀ j b,j < (us++news).length→appF us.length fs gs j b→v.ownBlock≠some b:=by
  intro j b hj hb
  rw [List.length_append] at hj
  unfold appF at hb
  split at hb
  ·exact hne j b (by assumption) hb
  ·exact hgb _ b (by omega) hb
 have hs':Src P i.size tx vx l.length news X.w:=by rw [hsz];exact hs
 -- the new row
 have grow:∀ (A:Option Addr) (cap:Nat),v=.slice A xs.length cap→cap < xs.length+l.length→(Builtin.firstCells i.size xs.length v).run P X.w.drew=.ok us.toArray X.w.drew →
   ∃ u w',(Builtin.append_ #[t,tx] ty #[v,vx]).run P X.w=.ok u w'∧Shows X G w' (.row X.nx) u (hput X.nx (.row (q&&q') ⟨k,xs++l⟩) X.hp) (X.nx+1):=by
  intro A cap hv hg hold
  rw [hv] at hold
  have hfit':Builtin.nextslicecap (xs.length+l.length) cap * i.bytes≤281474976710656:=growslice_fits hg (by
   have:(xs.length+l.length) * i.bytes≤1073741824 * 256:=Nat.mul_le_mul hfit hby
   omega)
  have hr:=run_append_grow_src X.w t tx ty e' i zv hu hi hz A xs.length cap us hold vx l.length news hs' hg (by omega) hfit'
  rw [← hv] at hr
  generalize hcap:grownCap X.w (xs.length+l.length) cap e'=c at hr
  have hge:xs.length+l.length≤c:=by rw [← hcap];exact grownCap_ge ..
  have hle:c≤maxLen:=by rw [← hcap];exact grownCap_le_maxLen _ _ _ _ (by simp only [maxLen];omega)
  generalize harr:((us++news).toArray++Builtin.zeroCells zv.cells (c - (xs.length+l.length)))=arr at hr
  have hasz:arr.size=c * k.esz:=by
   rw [← harr,Array.size_append,size_zeroCells,hzs]
   show (us++news).length+_=_
   rw [happ,List.length_append,← Nat.add_mul]
   congr 1
   omega
  have hl':(xs++l).length=xs.length+l.length:=List.length_append
  have:=newrow hw hcells (keep_alloc_drew X.w (.cells arr e')) (alloc_new_drew X.w (.cells arr e')) hte (cap:=c) (.zero _ _) (by omega) hle hasz (by
   rw [← harr,Array.toList_append]
   show List.take _ ((us++news)++_)=_
   rw [List.take_append_of_le_length (by rw [happ];exact Nat.le_refl _),List.take_of_length_le (by rw [happ];exact Nat.le_refl _)])
  rw [hl'] at this
  exact ⟨_,_,hr,Shows.row this⟩
 -- in place
 have stay:∀ (w':World) (v':Value),Keep (fun b=>v.ownBlock=some b) X.w w'→ownR w' (X.ety k) k.esz v' (xs++l).length (us++news)→(∀ b,v'.ownBlock=some b→v.ownBlock=some b) →
   Shows X G w' (.row X.nx) v' (hput X.nx (.row (q&&q') ⟨k,xs++l⟩) X.hp) (X.nx+1):=fun w' v' hk ho' hb =>
  Shows.row (makerow hw hcells hfr hk hfs ho' (fun b h=>.inl (hb b h)) (Nat.le_succ _) (Nat.lt_succ_self _) (fun h=>absurd h (Nat.lt_irrefl _)))
 rcases ho.2 with ⟨hn,h0⟩ | ⟨g,cap,cur,fz,hn,⟨eb,hg,htg⟩,hfz,hcap,hmax,hcsz,htk⟩
 ·have hus0:us=[]:=List.eq_nil_of_length_eq_zero (by rw [husl,h0,Nat.zero_mul])
  have hxs0:xs=[]:=List.eq_nil_of_length_eq_zero h0
  by_cases hl0:l.length=0
  ·have hnews0:news=[]:=List.eq_nil_of_length_eq_zero (by rw [hnl,hl0,Nat.zero_mul])
   have hl00:l=[]:=List.eq_nil_of_length_eq_zero hl0
   subst hnews0
   subst hl00
   subst hus0
   subst hxs0
   refine ⟨.slice none 0 0,X.w,?_,stay X.w _ (.refl _ _) (by rw [← hn];exact ho) (fun b hb=>by simp [Value.ownBlock] at hb)⟩
   rw [hn]
   exact run_append_nothing X.w t tx ty e' i hu hi none 0 0 (Nat.le_refl _) vx hs'
  ·refine grow none 0 (by rw [hn,h0]) (by omega) ?_
   rw [hn,h0,hus0]
   exact run_firstCells_none ..
 ·have hcapl:xs.length * k.esz≤cur.size:=by rw [hcsz];exact Nat.mul_le_mul_right _ hcap
  by_cases hroom:xs.length+l.length≤cap
  ·have hroom':(xs.length+l.length) * k.esz≤cur.size:=by rw [hcsz];exact Nat.mul_le_mul_right _ hroom
   rw [Nat.add_mul] at hroom'
   obtain ⟨w',cur',r1,r2,r3,r4,r5⟩:=st_cells (P:=P) (o:=xs.length * k.esz) news 0 cur X.w hg hfz.1 (by omega) hone
   refine ⟨.slice (some ⟨g,0,none⟩) (xs.length+l.length) cap,w',?_,stay w' _ (r5.mono fun b hb=>by rw [hn,hb];rfl) ⟨happ,.inr ⟨g,cap,cur',fz,by rw [List.length_append],⟨eb,r2,htg⟩,by rw [r3];exact hfz,by rw [List.length_append];exact hroom,hmax,by rw [r3];exact hcsz,?_⟩⟩ (fun b hb=>by rw [hn];exact hb)⟩
   ·rw [hn]
    rcases hs.kind with ⟨e2,hk⟩ | hk<;>simp [Builtin.append_,run_underlying hu,run_underlying hk,sizeOf,typeInfo,hi,hs.len,hroom,hsz,hs.cells,Addr.add_lit,r1]
   ·apply List.ext_getElem?
    intro j
    rw [List.getElem?_take,Array.getElem?_toList,r4 j,Nat.add_zero,List.length_append,Nat.add_mul,← hnl]
    by_cases hj:j < xs.length * k.esz
    ·rw [if_pos (by omega),if_neg (by omega),List.getElem?_append_left (by omega),← htk,List.getElem?_take,if_pos hj,Array.getElem?_toList]
    ·rw [List.getElem?_append_right (by omega),husl]
     by_cases hj2:j < xs.length * k.esz+news.length
     ·rw [if_pos hj2,if_pos (by omega)]
     ·rw [if_neg hj2,List.getElem?_eq_none (by omega)]
  ·refine grow (some ⟨g,0,none⟩) cap hn (by omega) ?_
   rw [hn,hsz]
   refine run_firstCells_some X.w.drew k.esz xs.length _ xs.length cap us husl (fun j u hj=>?_)
   obtain ⟨g',cap',e1,_,hcell⟩:=ho.cell hj
   rw [hn] at e1
   injection e1 with e1 _ _
   injection e1 with e1
   injection e1 with e1
   subst e1
   rw [Addr.add_lit,Nat.zero_add]
   exact hcell
end
end Go.Ab
namespace Go.Ab
open Go
variable [GI]
section
variable {P:Program} {E:Env} {X Y Z:Ctx} {G:Beg} {o:Oper} {a:Act}
theorem append_sound (hE:EnvOk P E) (hety:X.ety=E.ety) (hw:WRel X G) {dst ty pos after gd} {args:Array Operand} {ats:Array TypeId} {e:Operand→AV} (he:∀ x,x∈args.toList→RelV X (e x) (a.eval x)) {p:Option Prop} {v:AV} {hp:Hp} {nx:Nat}
  (h:stepH E ⟨dst,.call ⟨.builtin .append,args,ats⟩,ty,pos,after,gd⟩ e X.hp X.nx=some (p,v,hp,nx)) (hq:∀ q,p=some q→q):OpH P X G ⟨dst,.call ⟨.builtin .append,args,ats⟩,ty,pos,after,gd⟩ a v hp nx:=by
 simp only [stepH] at h
 split at h
 rotate_left
 ·cases h
 rename_i s x t tx hargs hats
 obtain ⟨sx,xx,hax⟩:∃ sx xx,args.toList=[sx,xx]:=by
  match hl:args.toList,hargs with
  | [u,w],_=>exact ⟨u,w,rfl⟩
 rw [hax] at hargs
 simp only [List.map_cons,List.map_nil,List.cons.injEq,and_true] at hargs
 obtain ⟨rfl,rfl⟩:=hargs
 have hsv:=he sx (by rw [hax];simp)
 have hxv:=he xx (by rw [hax];simp)
 have harr:args=#[sx,xx]:=by rw [← Array.toList_inj,hax]
 have hatr:ats=#[t,tx]:=by rw [← Array.toList_inj,hats]
 subst harr
 subst hatr
 have hexec:∀ {u:Value} {w':World},(Builtin.append_ #[t,tx] ty #[a.eval sx,a.eval xx]).run P X.w=.ok u w'→(execOp a.eval ⟨dst,.call ⟨.builtin .append,#[sx,xx],#[t,tx]⟩,ty,pos,after,gd⟩).run P X.w=.ok (.value u) w':=fun hr=>by
  simp [execOp,resolve,invoke,builtin,hr]
 split at h
 rotate_left
 ·cases h
 rename_i k htd
 split at h
 rotate_left
 ·cases h
 rename_i hsrc
 have hT:=hE.td t
 rw [htd] at hT
 obtain ⟨e',_,hu,hsz,_,zv,bb,hzb,_,hb1,hcv⟩:=hT
 obtain ⟨i,hi,hsz⟩:=info_of hsz
 obtain ⟨i',hi',hzb⟩:=info_of hzb
 rw [hi] at hi'
 cases hi'
 have hz:i.zero=some zv:=by simpa using (Prod.mk.inj hzb).1
 have hby:i.bytes≤256:=by have:i.bytes=bb:=by simpa using (Prod.mk.inj hzb).2
                          omega
 obtain ⟨z1,_⟩:=zero_cells (X:=X) hcv
 have hzs:zv.cells.size=k.esz:=by rw [← z1,Array.length_toList]
 split at h
 ·rename_i id hes
  split at h
  rotate_left
  ·cases h
  rename_i q d hb
  split at h
  rotate_left
  ·cases h
  rename_i hdk
  subst hdk
  rw [hes] at hsv
  cases hap:appSrc d.k (e xx) (hput id .dead X.hp) with
  | none=>rw [hap] at h;cases h
  | some r =>
  obtain ⟨l,q',hp2⟩:=r
  rw [hap] at h
  cases h
  have hfit:=hq _ rfl
  obtain ⟨us,fs,w1,ho,hc,hne,hfr,_,_⟩:=openrow hw hsv hb
  obtain ⟨news,hs,gs,t1,t2,t3,t4,t5⟩:=src_sound (X:=killC X id) hE w1 (hxv.ext (kill_same id).ext) hap hsrc
  have hSame:Same X { killC X id with hp:=hp2 }:=(kill_same id).trans t2
  obtain ⟨u,w',hr,hsh⟩:=app_core (X:={ killC X id with hp:=hp2 }) (G:=G) (P:=P) (t:=t) (tx:=tx) (ty:=ty) t1 (by show X.ety d.k=0∨e'=X.ety d.k;rw [hety];exact hE.tg _ _ htd _ hu) hu hi hsz hz hzs hby (v:=a.eval sx) (vx:=a.eval xx) ho (hfr.foot t3 t2.w t2.R fun _ _ h=>h) (hc.step t2 t3 fun _ _ _ _ h=>h) hne t4
   (fun j i b hj hi' e1 e2=>by obtain ⟨id',l1,l2⟩:=t5 i b hi' e2;exact (hc.free j hj).nl id' b l1 l2 e1) (fun j b hj hb' hh=>by obtain ⟨id',l1,l2⟩:=t5 j b hj hb';exact hfr.nl id' b l1 l2 hh) hs hfit
  exact opH_value (hexec hr) (Shows.after hSame t1 hsh)
 ·rename_i hes
  rw [hes] at hsv
  have hv0:a.eval sx=.slice none 0 0:=by
   generalize a.eval sx=vv at hsv
   cases hsv
   rfl
  cases hap:appSrc k (e xx) X.hp with
  | none=>rw [hap] at h;cases h
  | some r =>
  obtain ⟨l,q',hp2⟩:=r
  rw [hap] at h
  cases h
  have hfit:=hq _ rfl
  obtain ⟨news,hs,gs,t1,t2,t3,t4,t5⟩:=src_sound hE hw hxv hap hsrc
  have hob:(a.eval sx).ownBlock=none:=by rw [hv0];rfl
  obtain ⟨u,w',hr,hsh⟩:=app_core (X:={ X with hp:=hp2 }) (G:=G) (P:=P) (t:=t) (tx:=tx) (ty:=ty) t1 (by show X.ety k=0∨e'=X.ety k;rw [hety];exact hE.tg _ _ htd _ hu) hu hi hsz hz hzs hby (k:=k) (xs:=[]) (q:=true) (us:=[]) (fs:=fun _ _=>False) (v:=a.eval sx) (vx:=a.eval xx)
   ⟨by simp,.inl ⟨hv0,rfl⟩⟩ (Free.empty.sub fun b hb=>by rw [hob] at hb;cases hb) .nil (fun _ _ h=>absurd h (Nat.not_lt_zero _)) t4 (fun _ _ _ h=>absurd h (Nat.not_lt_zero _)) (fun j b _ _ hh=>by rw [hob] at hh;cases hh) hs (by simpa using hfit)
  exact opH_value (hexec hr) (Shows.after t2 t1 hsh)
 ·cases h
theorem fnd_sound (hE:EnvOk P E) (hw:WRel X G) {dst ty pos after gd} {f:Operand} {args:Array Operand} {ats:Array TypeId} {e:Operand→AV} {g:FuncId} {first caps:List AV} (hfd:E.fnd g=true)
  (hf:RelV X (.fn g first caps) (a.eval f)) (he:∀ x,x∈args.toList→RelV X (e x) (a.eval x)) {p:Option Prop} {v:AV} {hp:Hp} {nx:Nat}
  (h:fndH (first++args.toList.map e++caps) X.hp X.nx=some (p,v,hp,nx)) (hq:∀ q,p=some q→q):OpH P X G ⟨dst,.call ⟨.value f,args,ats⟩,ty,pos,after,gd⟩ a v hp nx:=by
 obtain ⟨fv,cv,hfv,hlen,hrel⟩:=fn_args (c:=e) hf he
 generalize first++args.toList.map e++caps=L at *
 generalize hV:fv++args.map a.eval++cv=V at *
 unfold fndH at h
 split at h
 rotate_left
 ·cases h
 rename_i id y
 split at h
 rotate_left
 ·cases h
 rename_i l q hb hy
 cases h
 obtain ⟨hlp,hpl⟩:=hq _ rfl
 obtain ⟨h1,h2⟩:=hE.fnd g hfd
 have hVs:V.size=2:=by rw [← hlen];rfl
 obtain ⟨v0,v1,rfl⟩:∃ v0 v1,V=#[v0,v1]:=by
  match hl:V.toList with
  | [x,z]=>exact ⟨x,z,by rw [← Array.toList_inj,hl]⟩
  | []=>have:=congrArg List.length hl;rw [Array.length_toList,hVs] at this;cases this
  | [_]=>have:=congrArg List.length hl;rw [Array.length_toList,hVs] at this;cases this
  | _ :: _ :: _ :: _=>have:=congrArg List.length hl;rw [Array.length_toList,hVs] at this;simp at this
 have hr0:=hrel 0 (.row id) v0 rfl rfl
 have hr1:=hrel 1 y v1 rfl rfl
 have hl:live X id:=by unfold live;rw [hb];simp
 have hid:id < X.nx:=live_lt hw hl
 obtain ⟨hv0,hk,ho⟩:=row_val hw hr0 hb
 have ho:Own X.w (dataCD X.ety ⟨.node,l⟩) v0 (X.ob id).F:=ho
 let Rc:Nat→Prop:=fun b=>X.R b∨∃ i,live X i∧(X.ob i).F b
 have hrep0:Rep X.w Rc (dataCD X.ety ⟨.node,l⟩) v0:=ho.rep fun b hb=>.inr ⟨id,hl,hb⟩
 have hrep1:Rep X.w Rc (dataCD X.ety ⟨.int,q⟩) v1:=by
  have:=view_rel hw (Rc:=Rc) (fun _ h=>.inl h) hr1 (.inr fun i b h1 h2=>.inr ⟨i,h1,h2⟩)
  rw [hy] at this
  cases this with
  | dat d v h=>exact h
 intro K Q hK
 unfold Oper.wp
 rw [run_call hfv h1,Oper.upon_enter,hV]
 refine (h2 X.ety X.w Rc l q v0 v1 hrep0 hrep1 hlp hpl).mono fun en w' hh=>?_
 obtain ⟨rfl,r,rfl,hfr⟩:=hh
 -- the answer is set aside
 have w1:=kill_rel hw id
 have s1:=kill_same (X:=X) id
 have f1:=kill_free hw hl
 have w2:=reserve_rel w1 r
 have s2:=reserve_same (X:=killC X id) r
 have ft2:=reserve_foot w1 r
 have f2:Free (reserve (killC X id) r) G (X.ob id).F:=f1.foot ft2 s2.w s2.R fun _ _ h=>h
 have hone0:v0.oneCell'=true:=by
  obtain ⟨xs,hxs⟩:=OwnO.own (o:=true) (d:=⟨.node,l⟩) (ety:=X.ety) (R:=X.R) ho
  obtain ⟨A,cap,rfl,_⟩:=own_shape hxs
  rfl
 have key:∃ (us:List Value) (fs:Nat→Nat→Prop) (F':Nat→Prop),us.length=6∧(∀ b,F' b→(X.ob id).F b)∧(∀ j b,j < 6→fs j b→(X.ob id).F b)∧(∀ j k c,j < 6→k < 6→fs j c→fs k c→j=k)∧(∀ j c,j < 6→fs j c→¬ F' c) ∧
   (∀ (j:Nat) (cd:CD) (u:Value),(elemCD X.ety .node (atN l q))[j]?=some cd→us[j]?=some u→Own X.w cd u (fs j)∧u.oneCell'=true) ∧
   ((atP l q).isNone=true→r=.pointer none∧Own X.w (dataCD X.ety ⟨.node,l⟩) v0 F') ∧
   ((atP l q).isNone=false→∃ g b arr t fz,r=.pointer (some ⟨g,b,none⟩)∧F' g∧X.w.heap[g]?=some (.cells arr t fz)∧Unf 6 arr.size fz∧b+6≤arr.size∧(∀ j,j < 6→us[j]?=arr[b+j]?)∧Wand X.ety X.w l q v0 F' g b arr t fz):=by
  have none_case:atP l q=none→r=.pointer none→∃ (us:List Value) (fs:Nat→Nat→Prop) (F':Nat→Prop),us.length=6∧(∀ b,F' b→(X.ob id).F b)∧(∀ j b,j < 6→fs j b→(X.ob id).F b)∧(∀ j k c,j < 6→k < 6→fs j c→fs k c→j=k)∧(∀ j c,j < 6→fs j c→¬ F' c) ∧
   (∀ (j:Nat) (cd:CD) (u:Value),(elemCD X.ety .node (atN l q))[j]?=some cd→us[j]?=some u→Own X.w cd u (fs j)∧u.oneCell'=true) ∧
   ((atP l q).isNone=true→r=.pointer none∧Own X.w (dataCD X.ety ⟨.node,l⟩) v0 F') ∧
   ((atP l q).isNone=false→∃ g b arr t fz,r=.pointer (some ⟨g,b,none⟩)∧F' g∧X.w.heap[g]?=some (.cells arr t fz)∧Unf 6 arr.size fz∧b+6≤arr.size∧(∀ j,j < 6→us[j]?=arr[b+j]?)∧Wand X.ety X.w l q v0 F' g b arr t fz):=fun hn hr=>by
   have e:atN l q=Node.mk 0 0 [] [] [] []:=by unfold atN;rw [hn];rfl
   refine ⟨[.int .i64 0,.int .i64 0,sv [],sv [],.slice none 0 0,.slice none 0 0],fun _ _=>False,(X.ob id).F,rfl,fun _ h=>h,fun _ _ _ h=>h.elim,fun _ _ _ _ _ h=>h.elim,fun _ _ _ h=>h.elim,fun j cd u hj hu=>?_,fun _=>⟨hr,ho⟩,fun h=>(by rw [hn] at h;cases h)⟩
   rw [e] at hj
   have empt:∀ (e:TypeId) (n:Nat),Own X.w (.sl e n []) (.slice none 0 0) (fun _=>False):=fun e n=>by
    refine .sl e n [] _ [] (fun _ _=>False) _ ⟨by simp,.inl ⟨rfl,rfl⟩⟩ (fun _ h=>by cases h) (fun _ _ _ h=>by simp at h) (fun _ _ h=>by simp at h) (fun _ _ _ h=>by simp at h) fun b=>⟨fun h=>h.elim,?_⟩
    rintro (h | ⟨_,h,_⟩)
    ·cases h
    ·simp at h
   match j with
   | 0=>cases hj;cases hu;exact ⟨.sc _ _ fun _ h=>h,rfl⟩
   | 1=>cases hj;cases hu;exact ⟨.sc _ _ fun _ h=>h,rfl⟩
   | 2=>cases hj;cases hu;exact ⟨.sc _ _ fun _ h=>h,rfl⟩
   | 3=>cases hj;cases hu;exact ⟨.sc _ _ fun _ h=>h,rfl⟩
   | 4=>cases hj;cases hu;exact ⟨empt _ _,rfl⟩
   | 5=>cases hj;cases hu;exact ⟨empt _ _,rfl⟩
   | j+6=>simp at hu
  by_cases hq0:q=[]
  ·subst hq0
   cases hfr
   exact none_case rfl rfl
  ·rcases own_split ho hfr hq0 with ⟨hn,hr⟩ | ⟨x,hx,g0,b0,arr,t,fz,fs,F',k1,k2,k3,k4,k5,k6,k7,k8,k9,k10,kw⟩
   ·exact none_case hn hr
   ·have e:atN l q=x:=by unfold atN;rw [hx];rfl
    have hul:((arr.toList.drop b0).take 6).length=6:=by have:=Array.length_toList (xs:=arr);rw [List.length_take,List.length_drop];omega
    have huj:∀ j,j < 6→((arr.toList.drop b0).take 6)[j]?=arr[b0+j]?:=fun j hj=>by rw [List.getElem?_take,if_pos hj,List.getElem?_drop,Array.getElem?_toList]
    refine ⟨(arr.toList.drop b0).take 6,fs,F',hul,k9,k10,k6,k7,fun j cd u hj hu=>?_,fun h=>(by rw [hx] at h;cases h),fun _=>⟨g0,b0,arr,t,fz,k1,k8,k2,k3,k4,huj,kw⟩⟩
    rw [e] at hj
    have hj6:j < 6:=by have:=(List.getElem?_eq_some_iff.1 hj).1;rw [elemCD_len] at this;exact this
    have hown:=k5 j cd u hj (by rw [← huj j hj6];exact hu)
    refine ⟨hown,?_⟩
    have hpl:∃ c,c∈elemCells .node x∧cd=cellCD X.ety c:=by
     rw [elemCD_cells,List.getElem?_map] at hj
     cases hc:(elemCells .node x)[j]? with
     | none=>rw [hc] at hj;cases hj
     | some c=>rw [hc] at hj;cases hj;exact ⟨c,List.mem_of_getElem? hc,rfl⟩
    have hmm:∃ y:Node,cd∈elemCD X.ety .node y:=⟨x,List.mem_of_getElem? hj⟩
    obtain ⟨y,hy'⟩:=hmm
    exact plain_cell (k:=.node) hy' (hown.rep (R:=fs j) fun _ h=>h)
 obtain ⟨us,fs,F',u1,u2,u3,u4,u5,u6,u7,u8⟩:=key
 have hcl:((elemCells .node (atN l q)).map (ownCell true)).length=6:=by rw [List.length_map,elemCells_len];rfl
 have hap:Apart (reserve (killC X id) r) G ((elemCells .node (atN l q)).map (ownCell true)) us fs:=by
  refine ⟨by rw [hcl,u1],fun j c u hj hu=>?_,fun j k b hj hk e1 e2=>u4 j k b (by omega) (by omega) e1 e2,fun j hj=>f2.sub fun b hb=>u3 j b (by omega) hb⟩
  rw [List.getElem?_map] at hj
  cases hcj:(elemCells .node (atN l q))[j]? with
  | none=>rw [hcj] at hj;cases hj
  | some c0 =>
   rw [hcj] at hj
   cases hj
   have hcd:(elemCD X.ety .node (atN l q))[j]?=some (cellCD X.ety c0):=by rw [elemCD_cells,List.getElem?_map,hcj];rfl
   obtain ⟨o1,o2⟩:=u6 j _ u hcd hu
   exact keep_cell (X:=reserve (killC X id) r) (elemCells_plain .node (atN l q) c0 (List.mem_of_getElem? hcj)) ⟨o2,fun _=>o1,o1.rep (R:=fun b=>X.R b∨fs j b) fun _ h=>.inr h⟩ (fun h=>by cases h)
 obtain ⟨Y,y1,y2,y3,y4,y5,y6,y7⟩:=bindC_rel w2 hap
 rw [u1] at y6
 have hnx:X.nx+1≤Y.nx:=y4.ext.nx
 rw [show (reserve (killC X id) r).hp=hput id .dead X.hp from rfl,show (reserve (killC X id) r).nx=X.nx+1 from rfl] at y1 y2 y6 y7
 generalize hB:bindC ((elemCells .node (atN l q)).map (ownCell true)) (hput id .dead X.hp) (X.nx+1)=B at *
 have eY:Ext X Y:=Ext.trans (X:=X) (Y:=reserve (killC X id) r) (Z:=Y) (fun b hb hs=>hs) ((s1.trans s2).ext) y4.ext
 have hob2:(Y.ob X.nx).v=r:=by
  rw [(y4.ext.ob X.nx (Nat.lt_succ_self _)).1]
  simp
 have hF':Free Y G F':=(f2.sub u2).foot y5 y4.w y4.R fun b h1 ⟨j,hj,h2⟩=>u5 j b (by omega) h2 h1
 have hold:id < Y.nx→v0=(Y.ob id).v∧Go.Ab.K.node=(Y.ob id).k:=fun _=>by
  rw [(eY.ob id hid).1,(eY.ob id hid).2]
  exact ⟨hv0,hk⟩
 have hyw:Y.w=X.w:=y4.w
 have hye:Y.ety=X.ety:=y4.ext.ety
 have hsame:=set_same (X:=Y) (id:=id) (ob:=.zip l q X.nx B.1) (i:=⟨v0,F',.node⟩) (nx:=Y.nx) (Nat.le_refl _) hold
 have hw':=setZip_rel (X:=Y) (id2:=X.nx) (l:=l) (p:=q) (cs:=B.1) (F:=F') y3 (Nat.le_refl _) (by omega) hold hF' (by omega) (by omega) (by
  rw [hob2]
  refine ⟨⟨y6,hone0⟩,fun b hb=>?_,us,u1,fun j c u hj hu=>?_,?_,?_⟩
  ·show b < Y.w.heap.size
   rw [hyw];exact live_lt_heap hw hl (u2 b hb)
  ·refine ⟨(y7 j c u hj hu).ext hsame.ext,?_⟩
   have hj6:j < 6:=by rw [← u1];exact (List.getElem?_eq_some_iff.1 hu).1
   have hlt:j < (elemCD X.ety .node (atN l q)).length:=by rw [elemCD_len];exact hj6
   exact (u6 j _ u (List.getElem?_eq_getElem hlt) hu).2
  ·show (atP l q).isNone=true→r=.pointer none∧Own Y.w (dataCD Y.ety ⟨.node,l⟩) v0 F'
   rw [hyw,hye];exact u7
  ·show (atP l q).isNone=false→∃ g b arr t fz,r=.pointer (some ⟨g,b,none⟩)∧F' g∧Y.w.heap[g]?=some (.cells arr t fz)∧Unf 6 arr.size fz∧b+6≤arr.size∧(∀ j,j < 6→us[j]?=arr[b+j]?)∧Wand Y.ety Y.w l q v0 F' g b arr t fz
   rw [hyw,hye];exact u8)
 have hidn:id < Y.nx:=by omega
 have hnxn:X.nx < Y.nx:=by omega
 have eF:Ext X (setC Y id (.zip l q X.nx B.1) ⟨v0,F',.node⟩ Y.nx):=eY.trans (fun b hb _=>y3.rl b (eY.R b hb)) hsame.ext
 have:=hK (setC Y id (.zip l q X.nx B.1) ⟨v0,F',.node⟩ Y.nx) r eF hw' (by show hput id _ Y.hp=_;rw [y1]) y2 (.zp id X.nx l q r hidn hnxn (by
  show r=(if X.nx=id then _ else Y.ob X.nx).v
  rw [if_neg (by omega),hob2]) (fun hn=>(u7 hn).1) (fun hs=>by obtain ⟨g,b,_,_,_,h,_⟩:=u8 hs;exact ⟨g,b,h⟩))
 rw [show (setC Y id (.zip l q X.nx B.1) ⟨v0,F',.node⟩ Y.nx).w=X.w from hyw] at this
 exact this
theorem callV_sound (hE:EnvOk P E) (hety:X.ety=E.ety) (hw:WRel X G) {dst ty pos after gd} {f:Operand} {args:Array Operand} {ats:Array TypeId} {e:Operand→AV} (hf:RelV X (e f) (a.eval f)) (he:∀ x,x∈args.toList→RelV X (e x) (a.eval x)) {p:Option Prop} {v:AV} {hp:Hp} {nx:Nat}
  (h:stepH E ⟨dst,.call ⟨.value f,args,ats⟩,ty,pos,after,gd⟩ e X.hp X.nx=some (p,v,hp,nx)) (hq:∀ q,p=some q→q):OpH P X G ⟨dst,.call ⟨.value f,args,ats⟩,ty,pos,after,gd⟩ a v hp nx:=by
 simp only [stepH] at h
 split at h
 rotate_left
 ·cases h
 rename_i g first caps hfe
 rw [hfe] at hf
 split at h
 ·rename_i sp hcal
  exact callH_sound hE hety hw hcal hf he h hq
 ·cases hfd:E.fnd g with
  | true =>
   rw [hfd] at h
   exact fnd_sound hE hw hfd hf he h hq
  | false=>rw [hfd] at h;cases h
theorem store_sound (hE:EnvOk P E) (hw:WRel X G) {dst ty pos after gd t} {x y:Operand} {e:Operand→AV} (hx:RelV X (e x) (a.eval x)) (hy:RelV X (e y) (a.eval y)) {p:Option Prop} {v:AV} {hp:Hp} {nx:Nat}
  (h:stepH E ⟨dst,.store t x y,ty,pos,after,gd⟩ e X.hp X.nx=some (p,v,hp,nx)):OpH P X G ⟨dst,.store t x y,ty,pos,after,gd⟩ a v hp nx:=by
 simp only [stepH] at h
 split at h
 rotate_left
 ·cases h
 rename_i hsz
 split at h
 ·rename_i id off hex
  split at h
  ·rename_i tb cs hb
   split at h
   ·rename_i hc
    cases h
    obtain ⟨hc,h3⟩:=(Bool.and_eq_true _ _ ▸ hc:_∧_)
    obtain ⟨h1,h2⟩:=(Bool.and_eq_true _ _ ▸ hc:_∧_)
    exact storeBox_sound hE hw hx hy hex hb hsz h1 h2 (of_decide_eq_true h3)
   ·cases h
  ·cases h
 ·rename_i id i off hex
  split at h
  ·rename_i q d hb
   generalize hT:takeL (cellsOf (e y)) (hput id .dead X.hp)=r at h
   obtain ⟨vs,hp1⟩:=r
   simp only at h
   cases hm:elemMk d.k (setAt ((elemCells d.k (d.get i)).map (ownCell q)) off vs) with
   | none=>rw [hm] at h;cases h
   | some r =>
    obtain ⟨z,o'⟩:=r
    rw [hm] at h
    simp only at h
    split at h
    ·rename_i hfit
     cases h
     exact storeRow_sound hE hw hx hy hex hb hsz hT hm (of_decide_eq_true hfit)
    ·cases h
  ·rename_i d j cs hb
   split at h
   ·rename_i hji
    subst hji
    split at h
    ·rename_i hc
     cases h
     obtain ⟨hc,h3⟩:=(Bool.and_eq_true _ _ ▸ hc:_∧_)
     obtain ⟨h1,h2⟩:=(Bool.and_eq_true _ _ ▸ hc:_∧_)
     exact storeHol_sound hE hw hx hy hex hb hsz h1 h2 (of_decide_eq_true h3)
    ·cases h
   ·cases h
  ·cases h
 ·rename_i id id2 off hex
  split at h
  ·rename_i l q j cs hb
   split at h
   ·rename_i hji
    subst hji
    split at h
    ·rename_i hc
     cases h
     obtain ⟨hc,h3⟩:=(Bool.and_eq_true _ _ ▸ hc:_∧_)
     obtain ⟨h1,h2⟩:=(Bool.and_eq_true _ _ ▸ hc:_∧_)
     exact storeZip_sound hE hw hx hy hex hb hsz h1 h2 (of_decide_eq_true h3)
    ·cases h
   ·cases h
  ·cases h
 ·cases h
theorem clear_sound (hE:EnvOk P E) (hw:WRel X G) {dst ty pos after gd} {args:Array Operand} {ats:Array TypeId} {e:Operand→AV} (he:∀ x,x∈args.toList→RelV X (e x) (a.eval x)) {p:Option Prop} {v:AV} {hp:Hp} {nx:Nat}
  (h:stepH E ⟨dst,.call ⟨.builtin .clear,args,ats⟩,ty,pos,after,gd⟩ e X.hp X.nx=some (p,v,hp,nx)):OpH P X G ⟨dst,.call ⟨.builtin .clear,args,ats⟩,ty,pos,after,gd⟩ a v hp nx:=by
 simp only [stepH] at h
 split at h
 rotate_left
 ·cases h
 rename_i id n t hargs hats
 split at h
 rotate_left
 ·cases h
 rename_i k q d htd hb
 split at h
 rotate_left
 ·cases h
 rename_i hkd
 subst hkd
 cases h
 obtain ⟨x,hax⟩:∃ x,args=#[x]:=by
  match hl:args.toList with
  | [x]=>exact ⟨x,by rw [← Array.toList_inj,hl]⟩
  | []=>rw [hl] at hargs;simp at hargs
  | _ :: _ :: _=>rw [hl] at hargs;simp at hargs
 subst hax
 have hatr:ats=#[t]:=by rw [← Array.toList_inj,hats]
 subst hatr
 have hex:e x=.rsb id n:=by simpa using hargs
 have hx:=he x (by simp)
 rw [hex] at hx
 have hexec:∀ {u:Value} {w':World},(Builtin.clear_ #[t] ty #[a.eval x]).run P X.w=.ok u w'→(execOp a.eval ⟨dst,.call ⟨.builtin .clear,#[x],#[t]⟩,ty,pos,after,gd⟩).run P X.w=.ok (.value u) w':=fun hr=>by
  simp [execOp,resolve,invoke,builtin,hr]
 have hT:=hE.td t
 rw [htd] at hT
 obtain ⟨e',_,hu,hsz,_,zv,bb,hzb,_,hb1,hcv⟩:=hT
 obtain ⟨i,hi,hsz⟩:=info_of hsz
 obtain ⟨i',hi',hzb⟩:=info_of hzb
 rw [hi] at hi'
 cases hi'
 have hz:i.zero=some zv:=by simpa using (Prod.mk.inj hzb).1
 obtain ⟨z1,z2⟩:=zero_cells (X:=killC X id) hcv
 have hzs:zv.cells.size=d.k.esz:=by rw [← z1,Array.length_toList]
 have hesz0:0 < d.k.esz:=by cases d.k<;>decide
 generalize hxv:a.eval x=xv at hx
 cases hx with
 | rsb id n v hid h0 hh =>
 obtain ⟨A,len,cap,hv,hle,A',c',hval,hg⟩:=hh
 obtain ⟨_,hkk,_⟩:=row_val hw (RelV.row id (X.ob id).v hid rfl) hb
 obtain ⟨us,fs,w1,ho,hc,hne,hfr,_,_⟩:=openrow hw (RelV.row id (X.ob id).v hid rfl) hb
 obtain ⟨A2,cap2,hv2,hcap2,_⟩:=own_shape ho
 rw [hv] at hv2
 have hlen:len=d.l.length:=by injection hv2
 subst hlen
 have husl:us.length=d.l.length * d.k.esz:=ho.1
 let zs:List Value:=(Builtin.zeroCells zv.cells (d.l.length - n.toNat)).toList
 have hzl:zs.length=(d.l.length - n.toNat) * d.k.esz:=by simp [zs,Builtin.zeroCells,hzs]
 have hzg:∀ j,j < zs.length→zs[j]?=zv.cells.toList[j % d.k.esz]?:=fun j hj=>by
  rw [hzl] at hj
  have hm:j % d.k.esz < zv.cells.size:=by rw [hzs];exact Nat.mod_lt _ hesz0
  have hj':j < (d.l.length - n.toNat) * zv.cells.size:=by rw [hzs];exact hj
  simp only [zs,Builtin.zeroCells,Array.getElem?_toList]
  rw [Array.getElem?_map,Array.getElem?_range,if_pos hj']
  simp only [Option.map_some,hzs]
  rw [getElem!_pos zv.cells (j % d.k.esz) hm,Array.getElem?_eq_getElem hm]
 let us':=setL us (n.toNat * d.k.esz) zs
 have hmul:n.toNat * d.k.esz+(d.l.length - n.toNat) * d.k.esz=d.l.length * d.k.esz:=by
  rw [← Nat.add_mul]
  congr 1
  omega
 have hbl:n.toNat * d.k.esz+zs.length≤us.length:=by rw [hzl,husl,hmul];exact Nat.le_refl _
 have hus':us'.length=us.length:=setL_len hbl
 let fs':Nat→Nat→Prop:=fun j b=>j < n.toNat * d.k.esz∧fs j b
 let l':=d.l.take n.toNat++List.replicate (d.l.length - n.toNat) d.k.dflt
 have hl':l'.length=d.l.length:=by simp only [l',List.length_append,List.length_take,List.length_replicate];omega
 have hcells:CellsJ (killC X id) G q (l'.map (elemCD X.ety d.k)).flatten us' fs':=by
  have hfl:(l'.map (elemCD X.ety d.k)).flatten.length=d.l.length * d.k.esz:=by
   rw [flatten_len (n:=d.k.esz) (fun row hr=>by obtain ⟨y,_,rfl⟩:=List.mem_map.1 hr;exact elemCD_len X.ety d.k y),List.length_map,hl']
  refine ⟨by rw [hfl,hus',husl],fun j cd u hj hu=>?_,fun j k b hj hk e1 e2=>hc.dis j k b (by omega) (by omega) e1.2 e2.2,fun j hj=>(hc.free j (by omega)).sub fun b hb=>hb.2⟩
  have hjl:j < d.l.length * d.k.esz:=by rw [← hfl];exact (List.getElem?_eq_some_iff.1 hj).1
  obtain ⟨x0,hx0,hx1,hmod⟩:=flat_at (X:=X) (xs:=l') (by rw [hl'];exact hjl)
  rw [hx1] at hj
  rw [show us'[j]?=_ from setL_get hbl] at hu
  by_cases hlt:j < n.toNat * d.k.esz
  ·rw [if_neg (by omega)] at hu
   have hdn:j / d.k.esz < n.toNat:=Nat.div_lt_of_lt_mul (by rw [Nat.mul_comm];exact hlt)
   have hx0':d.l[j / d.k.esz]?=some x0:=by
    rw [← hx0]
    simp only [l']
    rw [List.getElem?_append_left (by rw [List.length_take];omega),List.getElem?_take,if_pos hdn]
   obtain ⟨x1,hx1',hx2,_⟩:=flat_at (X:=X) (xs:=d.l) hjl
   rw [hx0'] at hx1'
   cases hx1'
   rw [← hx2] at hj
   have hh:fs' j=fs j:=funext fun b=>propext ⟨fun h=>h.2,fun h=>⟨hlt,h⟩⟩
   rw [hh]
   exact hc.rel j cd u hj hu
  ·rw [if_pos ⟨by omega,by rw [hzl];omega⟩] at hu
   have hdn:n.toNat≤j / d.k.esz:=(Nat.le_div_iff_mul_le hesz0).2 (by omega)
   have hdl:j / d.k.esz < d.l.length:=Nat.div_lt_of_lt_mul (by rw [Nat.mul_comm];exact hjl)
   have hx0':x0=d.k.dflt:=by
    simp only [l'] at hx0
    rw [List.getElem?_append_right (by rw [List.length_take];omega),List.getElem?_replicate] at hx0
    split at hx0
    ·cases hx0;rfl
    ·cases hx0
   subst hx0'
   rw [hzg _ (by rw [hzl];omega)] at hu
   have hmm:(j - n.toNat * d.k.esz) % d.k.esz=j % d.k.esz:=by
    have hjr:∃ r,j=r+d.k.esz * n.toNat:=⟨j - n.toNat * d.k.esz,by rw [Nat.mul_comm d.k.esz];omega⟩
    obtain ⟨r,hr⟩:=hjr
    have h1:j - n.toNat * d.k.esz=r:=by rw [hr,Nat.mul_comm n.toNat];omega
    rw [h1,hr,Nat.add_mul_mod_self_left]
   rw [hmm] at hu
   have:=(z2 _ cd u hj hu).weak (q':=q) (fun _=>rfl)
   have hh:fs' j=fun _=>False:=funext fun b=>propext ⟨fun h=>hlt h.1,fun h=>h.elim⟩
   rw [hh]
   exact this
 have fin:∀ w':World,Keep (fun b=>(X.ob id).v.ownBlock=some b) X.w w'→ownR w' (X.ety d.k) d.k.esz (X.ob id).v l'.length us'→(execOp a.eval ⟨dst,.call ⟨.builtin .clear,#[x],#[t]⟩,ty,pos,after,gd⟩).run P X.w=.ok (.value (.tuple #[])) w' →
   OpH P X G ⟨dst,.call ⟨.builtin .clear,#[x],#[t]⟩,ty,pos,after,gd⟩ a (.tup []) (hput id (.row q ⟨d.k,l'⟩) (hput id .dead X.hp)) X.nx:=by
  intro w' hk ho' hr
  have mk:=makerow (k:=d.k) (xs:=l') (X:=killC X id) w1 hcells hfr hk (fun j b hj hb hh=>hne j b (by omega) hb.2 hh) ho' (fun b hb=>.inl hb) (id:=id) (nx:=X.nx) (Nat.le_refl _) hid (fun _=>⟨rfl,hkk⟩)
  obtain ⟨X3,n1,n2,n3,n4,n5,_⟩:=mk
  refine opH_value (u:=.tuple #[]) (w':=w') hr ?_
  exact ⟨X3,Ext.trans (X:=X) (Y:=killC X id) (Z:=X3) (fun _ _ h=>h) (kill_same id).ext n1,n2,n3,n4,n5,.tup [] #[] rfl (fun j c u h=>by simp at h)⟩
 rcases Nat.lt_or_ge n.toNat d.l.length with hlt | hge
 ·obtain ⟨g,hA,hA'⟩:=hg (by omega)
  rcases ho.2 with ⟨hn,hz0⟩ | ⟨g',cap3,cur,fz,hn,⟨eb,hgb,htg⟩,hfz,hcap3,hmax,hcsz,htk⟩
  ·omega
  rw [hv] at hn
  have hgg:g'=g:=by injection hn with e1;rw [hA] at e1;injection e1 with e1;injection e1 with e1;exact e1.symm
  subst hgg
  have hcapl:d.l.length * d.k.esz≤cur.size:=by rw [hcsz];exact Nat.mul_le_mul_right _ hcap3
  have hone:∀ u∈zs,u.oneCell'=true:=by
   intro u hu
   obtain ⟨j,hj,rfl⟩:=List.getElem_of_mem hu
   have hjm:j % d.k.esz < d.k.esz:=Nat.mod_lt _ hesz0
   have h1:=hzg j hj
   rw [List.getElem?_eq_getElem hj] at h1
   have hcl:j % d.k.esz < (elemCD (killC X id).ety d.k d.k.dflt).length:=by rw [elemCD_len];exact hjm
   exact (z2 _ _ _ (List.getElem?_eq_getElem hcl) h1.symm).1
  obtain ⟨w',cur',r1,r2,r3,r4,r5⟩:=st_cells (P:=P) (o:=n.toNat * d.k.esz) zs 0 cur X.w hgb hfz.1 (by omega) hone
  refine fin w' (r5.mono fun b hb=>by rw [hb,hv,hA];rfl) ?_ (hexec ?_)
  ·rw [hl']
   refine ⟨by rw [hus',husl],.inr ⟨g',cap3,cur',fz,by rw [hv];exact hn,⟨eb,r2,htg⟩,by rw [r3];exact hfz,hcap3,hmax,by rw [r3];exact hcsz,?_⟩⟩
   apply List.ext_getElem?
   intro j
   show _=(setL us (n.toNat * d.k.esz) zs)[j]?
   rw [setL_get hbl,List.getElem?_take,Array.getElem?_toList,r4 j,Nat.add_zero,← htk,List.getElem?_take,Array.getElem?_toList]
   by_cases hj:j < d.l.length * d.k.esz
   ·rw [if_pos hj,if_pos hj,Array.getElem?_toList]
   ·rw [if_neg hj,if_neg (by omega),if_neg hj]
  ·rw [hxv,hval,hA',← hkk]
   obtain ⟨m,hm⟩:∃ m,d.l.length - n.toNat=m+1:=⟨d.l.length - n.toNat - 1,by omega⟩
   have hst:(storeCells ⟨g',n.toNat * d.k.esz,none⟩ (Builtin.zeroCells zv.cells (m+1)).toList).run P X.w=.ok () w':=by rw [← hm];exact r1
   rw [hm]
   simp [Builtin.clear_,run_underlying hu,run_zero hi hz,hst]
 ·have hn0:d.l.length - n.toNat=0:=by omega
  have hzn:zs=[]:=List.eq_nil_of_length_eq_zero (by rw [hzl,hn0,Nat.zero_mul])
  have hue:us'=us:=by
   apply List.ext_getElem?
   intro j
   rw [show us'[j]?=_ from setL_get hbl,hzn,if_neg (by simp only [List.length_nil];omega)]
  refine fin X.w (Keep.refl _ _) (by rw [hl',hue];exact ho) (hexec ?_)
  rw [hxv,hval,hn0]
  cases A'<;>simp [Builtin.clear_,run_underlying hu]
theorem opn_core (hw:WRel X G) {v:Value} {id off:Nat} {i:Int} {d:Data} (hb:hgt X.hp id=.row true d) (hx:RelV X (.elp id i off) v):∃ X',WRel X' G∧Ext X X'∧X'.w=X.w ∧
  X'.hp=hput id (.hol d i (bindC ((elemCells d.k (d.get i)).map (ownCell true)) (hput id .dead X.hp) X.nx).1) (bindC ((elemCells d.k (d.get i)).map (ownCell true)) (hput id .dead X.hp) X.nx).2.1 ∧
  X'.nx=(bindC ((elemCells d.k (d.get i)).map (ownCell true)) (hput id .dead X.hp) X.nx).2.2:=by
 obtain ⟨g,b0,_,_,hob,hi0,hi1,_⟩:=elp_cells hw hx hb
 have hid:id < X.nx:=by cases hx;assumption
 obtain ⟨_,hkk,_⟩:=row_val hw (RelV.row id (X.ob id).v hid rfl) hb
 obtain ⟨us,fs,w1,ho,hc,hne,hfr,hFF,_⟩:=openrow hw (RelV.row id (X.ob id).v hid rfl) hb
 have hl:live X id:=by unfold live;rw [hb];simp
 have hfree:=kill_free hw hl
 have hesz0:0 < d.k.esz:=by cases d.k<;>decide
 have husl:us.length=d.l.length * d.k.esz:=ho.1
 have ilt:i.toNat < d.l.length:=by omega
 have hrow:(i.toNat+1) * d.k.esz≤d.l.length * d.k.esz:=Nat.mul_le_mul_right _ ilt
 have hrow':(i.toNat+1) * d.k.esz=i.toNat * d.k.esz+d.k.esz:=by rw [Nat.add_mul,Nat.one_mul]
 let ui:=(us.drop (i.toNat * d.k.esz)).take d.k.esz
 have huil:ui.length=d.k.esz:=by simp only [ui,List.length_take,List.length_drop];omega
 have hui:∀ j,j < d.k.esz→ui[j]?=us[i.toNat * d.k.esz+j]?:=fun j hj=>by simp only [ui,List.getElem?_take,List.getElem?_drop];rw [if_pos hj]
 have hget:d.get i=d.l[i.toNat]:=by simp [Data.get,List.getD,ilt]
 have hcd:∀ j c0,(elemCells d.k (d.get i))[j]?=some c0→(d.l.map (elemCD X.ety d.k)).flatten[i.toNat * d.k.esz+j]?=some (cellCD X.ety c0):=fun j c0 hj=>by
  have hcd:(elemCD X.ety d.k (d.get i))[j]?=some (cellCD X.ety c0):=by rw [elemCD_cells,List.getElem?_map,hj];rfl
  have hrow:(d.l.map (elemCD X.ety d.k))[i.toNat]?=some (elemCD X.ety d.k (d.get i)):=by rw [List.getElem?_map,List.getElem?_eq_getElem ilt,hget];rfl
  exact flatten_get (fun row hr=>by obtain ⟨x,_,rfl⟩:=List.mem_map.1 hr;exact elemCD_len X.ety d.k x) hrow hcd
 have hcl:((elemCells d.k (d.get i)).map (ownCell true)).length=d.k.esz:=by rw [List.length_map,elemCells_len]
 have hap:Apart (killC X id) G ((elemCells d.k (d.get i)).map (ownCell true)) ui (fun j=>fs (i.toNat * d.k.esz+j)):=by
  refine ⟨by rw [hcl,huil],fun j c u hj hu=>?_,fun j k b hj hk e1 e2=>?_,fun j hj=>?_⟩
  ·rw [List.getElem?_map] at hj
   cases hcj:(elemCells d.k (d.get i))[j]? with
   | none=>rw [hcj] at hj;cases hj
   | some c0 =>
    rw [hcj] at hj
    cases hj
    have hjl:j < d.k.esz:=by rw [← elemCells_len d.k (d.get i)];exact (List.getElem?_eq_some_iff.1 hcj).1
    rw [hui j hjl] at hu
    exact keep_cell (X:=killC X id) (elemCells_plain d.k (d.get i) c0 (List.mem_of_getElem? hcj)) (hc.rel _ _ u (hcd j c0 hcj) hu) (fun hq=>by cases hq)
  ·rw [hcl] at hj hk
   have:=hc.dis (i.toNat * d.k.esz+j) (i.toNat * d.k.esz+k) b (by omega) (by omega) e1 e2
   omega
  ·rw [hcl] at hj
   exact hc.free _ (by omega)
 obtain ⟨Y,y1,y2,y3,y4,y5,y6,y7⟩:=bindC_rel w1 hap
 rw [huil] at y6
 have hcsl:((elemCells d.k (d.get i)).map (ownCell true)).length=d.k.esz:=hcl
 have e1:Ext X Y:=Ext.trans (X:=X) (Y:=killC X id) (Z:=Y) (fun _ _ h=>h) (kill_same id).ext y4.ext
 have hnx:X.nx≤Y.nx:=y4.ext.nx
 let F':Nat→Prop:=fun b=>(X.ob id).v.ownBlock=some b∨∃ j,j < us.length∧(j / d.k.esz≠i.toNat∧fs j b)
 have hF':Free Y G F':=by
  refine (hfree.sub (F':=F') fun b hb=>hFF b (hb.imp (fun h=>h) fun ⟨j,hj,_,hb⟩=>⟨j,hj,hb⟩)).foot y5 y4.w y4.R fun b h1 ⟨j,hj,h2⟩=>?_
  rw [hcl] at hj
  rcases h1 with h1 | ⟨k,hk,hki,h1⟩
  ·exact hne _ b (by omega) h2 h1
  ·have:=hc.dis k (i.toNat * d.k.esz+j) b hk (by omega) h1 h2
   exact hki (by rw [this];exact div_elem hj)
 have hold:id < Y.nx→(X.ob id).v=(Y.ob id).v∧d.k=(Y.ob id).k:=fun _=>⟨((y4.ext.ob id hid).1).symm,by rw [(y4.ext.ob id hid).2];exact hkk⟩
 rw [show (killC X id).hp=hput id .dead X.hp from rfl,show (killC X id).nx=X.nx from rfl] at y1 y2 y6 y7
 generalize hB:bindC ((elemCells d.k (d.get i)).map (ownCell true)) (hput id .dead X.hp) X.nx=B at *
 have hsame:=set_same (X:=Y) (id:=id) (ob:=.hol d i B.1) (i:=⟨(X.ob id).v,F',d.k⟩) (nx:=Y.nx) (Nat.le_refl _) hold
 have eS:Ext X (setC Y id (.hol d i B.1) ⟨(X.ob id).v,F',d.k⟩ Y.nx):=e1.trans (fun b hb _=>y3.rl b (e1.R b hb)) hsame.ext
 refine ⟨setC Y id (.hol d i B.1) ⟨(X.ob id).v,F',d.k⟩ Y.nx,?_,eS,y4.w,(by show hput id _ Y.hp=_;rw [y1]),y2⟩
 refine setHol_rel y3 (Nat.le_refl _) (by omega) hold hF' ?_
 refine ⟨hi0,ilt,y6,us,fun j b=>j / d.k.esz≠i.toNat∧fs j b,?_,fun j cd u hj hcc hu=>?_,fun j c u hj hu=>?_,fun j b e1 e2=>e2.1 e1,fun j k b hj hk e1 e2=>hc.dis j k b hj hk e1.2 e2.2,fun j b hj e1=>hne j b hj e1.2,fun b=>Iff.rfl⟩
 ·show ownR Y.w (Y.ety d.k) d.k.esz (X.ob id).v d.l.length us
  rw [y4.w,y4.ext.ety]
  exact ho
 ·have hcc':(d.l.map (elemCD X.ety d.k)).flatten[j]?=some cd:=by
   have:(setC Y id (.hol d i B.1) ⟨(X.ob id).v,F',d.k⟩ Y.nx).ety=X.ety:=y4.ext.ety
   rw [this] at hcc
   exact hcc
  have hf:(fun b=>j / d.k.esz≠i.toNat∧fs j b)=fs j:=funext fun b=>propext ⟨fun h=>h.2,fun h=>⟨hj,h⟩⟩
  show Own Y.w cd u (fun b=>j / d.k.esz≠i.toNat∧fs j b)
  rw [hf,y4.w]
  exact (hc.rel j cd u hcc' hu).2.1 rfl
 ·have hjl:j < d.k.esz:=by rw [← y6];exact (List.getElem?_eq_some_iff.1 hj).1
  refine ⟨(y7 j c u hj (by rw [hui j hjl];exact hu)).ext hsame.ext,?_⟩
  have hlt:j < (elemCells d.k (d.get i)).length:=by rw [elemCells_len];exact hjl
  exact (hc.rel _ _ u (hcd j _ (List.getElem?_eq_getElem hlt)) hu).1
theorem loadH_sound (hE:EnvOk P E) (hety:X.ety=E.ety) (hw:WRel X G) {e:Operand→AV} {dst ty pos after gd t x} (he:RelV X (e x) (a.eval x)) {p:Option Prop} {v:AV} {hp:Hp} {nx:Nat}
  (h:stepH E ⟨dst,.load t x,ty,pos,after,gd⟩ e X.hp X.nx=some (p,v,hp,nx)):OpH P X G ⟨dst,.load t x,ty,pos,after,gd⟩ a v hp nx:=by
 simp only [stepH] at h
 split at h
 rotate_left
 ·cases h
 rename_i k id i off htd hex
 split at h
 rotate_left
 ·cases h
 rename_i d hb
 rw [hex] at he
 obtain ⟨Y,h1,h2,h3,h4,h5⟩:=opn_core hw hb he
 cases hv:(bindC ((elemCells d.k (d.get i)).map (ownCell true)) (hput id .dead X.hp) X.nx).1[off]? with
 | none=>rw [hv] at h;cases h
 | some u =>
 rw [hv] at h
 simp only [Option.map_some,Option.some.injEq,Prod.mk.injEq] at h
 obtain ⟨rfl,rfl,rfl,rfl⟩:=h
 have hst:stepP E ⟨dst,.load t x,ty,pos,after,gd⟩ e Y.hp=some (none,u):=by
  simp only [stepP,hex,h4,hgt_hput,if_true,htd,ldC,hv,Option.map_some]
 intro K Q hK
 have:=stepP_sound (o:=⟨dst,.load t x,ty,pos,after,gd⟩) hE (h2.ety.trans hety) h1 (e:=e) (fun y hy=>by
  simp [Op.operands] at hy
  subst hy
  rw [hex]
  exact he.ext h2) hst (fun q hq=>by cases hq) K Q fun X' u' e1 w1 g1 g2 hv'=>hK X' u' (Ext.trans (fun b _ hb=>by rw [h3];exact hb) h2 e1) w1 (g1.trans h4) (g2.trans h5) hv'
 rw [h3] at this
 exact this
theorem stepH_sound (hE:EnvOk P E) (hety:X.ety=E.ety) (hw:WRel X G) {e:Operand→AV} (he:∀ x,x∈o.op.operands.toList→RelV X (e x) (a.eval x)) {p:Option Prop} {v:AV} {hp:Hp} {nx:Nat}
  (h:stepH E o e X.hp X.nx=some (p,v,hp,nx)) (hq:∀ q,p=some q→q):OpH P X G o a v hp nx:=by
 obtain ⟨dst,op,ty,pos,after,gd⟩:=o
 cases op with
 | load t x=>exact loadH_sound hE hety hw (he x (by simp [Op.operands])) h
 | alloc t=>exact alloc_sound hE hw h
 | box t x=>exact box_sound hw (he x (by simp [Op.operands])) h
 | buildSlice t len parts=>exact buildSlice_sound hE hety hw he h
 | makeSlice t l c=>exact makeSlice_sound hE hety hw (he l (by simp [Op.operands])) (he c (by simp [Op.operands])) h hq
 | convert s d x=>exact convert_sound hE hety hw (he x (by simp [Op.operands])) h hq
 | store t x y=>exact store_sound hE hw (he x (by simp [Op.operands])) (he y (by simp [Op.operands])) h
 | slice t x lo hi mx =>
  cases lo with
  | some l=>cases h
  | none=>cases hi with
   | none=>cases h
   | some y=>cases mx with
    | some m=>cases h
    | none=>exact cutRow_sound hE hw (he x (by simp [Op.operands])) (he y (by simp [Op.operands])) h hq
 | call c =>
  obtain ⟨cal,args,ats⟩:=c
  have hargs:∀ x,x∈args.toList→RelV X (e x) (a.eval x):=fun x hx=>he x (by simp only [Op.operands,Call.operands];cases cal<;>simp [Array.mem_toList_iff.1 hx])
  cases cal with
  | value f=>exact callV_sound hE hety hw (he f (by simp [Op.operands,Call.operands])) hargs h hq
  | invoke r m=>cases h
  | builtin b =>
   cases b with
   | append=>exact append_sound hE hety hw hargs h hq
   | clear=>exact clear_sound hE hw hargs h
   | _=>cases h
 | _=>cases h
theorem stepW_sound (hE:EnvOk P E) (hety:X.ety=E.ety) (hw:WRel X G) {e:Operand→AV} (he:∀ x,x∈o.op.operands.toList→RelV X (e x) (a.eval x)) {s:St} (hs:s.hp=X.hp) (hn:s.nx=X.nx) {q p:Option Prop} {v:AV} {hp:Hp} {nx:Nat}
  (h:stepW E o e q s=some (p,v,hp,nx)) (hq:∀ q,p=some q→q):OpH P X G o a v hp nx:=by
 unfold stepW at h
 rw [hs,hn] at h
 split at h
 ·rename_i p' v' hp'
  cases h
  have:=stepP_sound hE hety hw he hp' (cjo_all hq).2
  exact fun K Q hK=>this K Q fun X' u h1 h2 h3 h4 h5=>hK X' u h1 h2 h3 h4 h5
 ·split at h
  ·rename_i p' v' hp' nx' hh
   cases h
   exact stepH_sound hE hety hw he hh (cjo_all hq).2
  ·cases h
end
end Go.Ab
namespace Go.Ab
open Go
variable [GI]
section
variable {P:Program} {E:Env} {X Y Z:Ctx} {G:Beg} {o:Oper} {a:Act}
theorem memN_mem {n:Nat}:∀ {l:List Nat},memN n l=true→n∈l
 | m :: r,h=>by
  unfold memN at h
  split at h
  ·rename_i e;rw [e];exact List.mem_cons_self
  ·exact List.mem_cons_of_mem _ (memN_mem h)
def bare (X:Ctx) (n:Nat):Ctx:={ X with hp:=[],nx:=n }
theorem bare_rel (hw:WRel X G) (n:Nat):WRel (bare X n) G :=
 ⟨fun _=>trivial,fun _ _=>rfl,fun _ _ _ h=>absurd rfl h,fun _ _ h=>absurd rfl h,hw.rl,hw.kp,hw.r0,hw.rn,fun _ _ h=>absurd rfl h,hw.gi⟩
theorem cl0_rel {bx:List Nat} {n:Nat} (hb:∀ id∈bx,id < 1000000→id < n) {c:AV} {u:Value} {F:Nat→Prop} (h:RelA X c u F):∃ F':Nat→Prop,(∀ b,F' b→F b)∧RelA (bare X n) (cl0 bx c) u F':=by
 have any:∀ {v:Value},∃ F':Nat→Prop,(∀ b,F' b→F b)∧RelA (bare X n) .any v F':=⟨fun _=>False,fun _ h=>h.elim,.pl _ _ _ (.any _) (fun _ h=>h)⟩
 have pl:∀ {c:AV} {v:Value},RelV (bare X n) c v→∃ F':Nat→Prop,(∀ b,F' b→F b)∧RelA (bare X n) c v F':=fun h=>⟨fun _=>False,fun _ h=>h.elim,.pl _ _ _ h (fun _ h=>h)⟩
 cases h with
 | own q d v F h=>exact ⟨F,fun _ h=>h,.own q d u F h⟩
 | pl c v F h hF =>
  cases h with
  | int k n=>exact pl (.int k n)
  | u8 b=>exact pl (.u8 b)
  | bool b=>exact pl (.bool b)
  | str l=>exact pl (.str l)
  | val v=>exact pl (.val _)
  | nilS=>exact pl .nilS
  | dat d v h=>exact pl (.dat d u h)
  | dep d i off g o h0 h1 hRg h=>exact pl (.dep d i off g o h0 h1 hRg h)
  | ptr id off v hid h =>
   show ∃ F':Nat→Prop,(∀ b,F' b→F b)∧RelA (bare X n) (if id < 1000000 then (if memN id bx then .ptr id off else .any) else .any) u F'
   split
   ·rename_i hlt
    split
    ·rename_i hm
     exact pl (.ptr id off _ (hb id (memN_mem hm) hlt) h)
    ·exact any
   ·exact any
  | slf id T v hid h =>
   show ∃ F':Nat→Prop,(∀ b,F' b→F b)∧RelA (bare X n) (if id < 1000000 then (if memN id bx then .slf id T else .any) else .any) u F'
   split
   ·rename_i hlt
    split
    ·rename_i hm
     exact pl (.slf id T _ (hb id (memN_mem hm) hlt) h)
    ·exact any
   ·exact any
  | _=>exact any
 | _=>exact any
theorem lst_rel {f:AV→AV} {n:Nat} (hf:∀ {c:AV} {u:Value} {F:Nat→Prop},RelA X c u F→∃ F':Nat→Prop,(∀ b,F' b→F b)∧RelA (bare X n) (f c) u F') {cs:List AV} {us:List Value} {fs:Nat→Nat→Prop} (hl:cs.length=us.length)
  (h:∀ (j:Nat) (c:AV) (u:Value),cs[j]?=some c→us[j]?=some u→RelA X c u (fs j)) :
  ∃ fs':Nat→Nat→Prop,(∀ j b,fs' j b→fs j b)∧∀ (j:Nat) (c:AV) (u:Value),(cs.map f)[j]?=some c→us[j]?=some u→RelA (bare X n) c u (fs' j):=by
 have key:∀ j,∃ F':Nat→Prop,(∀ b,F' b→fs j b)∧∀ (c:AV) (u:Value),(cs.map f)[j]?=some c→us[j]?=some u→RelA (bare X n) c u F':=by
  intro j
  by_cases hj:j < cs.length
  ·obtain ⟨F',h1,h2⟩:=hf (h j cs[j] (us[j]'(by omega)) (List.getElem?_eq_getElem hj) (List.getElem?_eq_getElem (by omega)))
   refine ⟨F',h1,fun c u hc hu=>?_⟩
   rw [List.getElem?_map,List.getElem?_eq_getElem hj] at hc
   rw [List.getElem?_eq_getElem (by omega)] at hu
   cases hc
   cases hu
   exact h2
  ·refine ⟨fun _=>False,fun _ h=>h.elim,fun c u hc=>?_⟩
   rw [List.getElem?_map,List.getElem?_eq_none (by omega)] at hc
   cases hc
 exact ⟨fun j=>(key j).choose,fun j=>(key j).choose_spec.1,fun j=>(key j).choose_spec.2⟩
theorem lstV_rel {f:AV→AV} {n:Nat} (hf:∀ {c:AV} {u:Value} {F:Nat→Prop},RelA X c u F→∃ F':Nat→Prop,(∀ b,F' b→F b)∧RelA (bare X n) (f c) u F') {cs:List AV} {vs:Array Value}
  {fs:Nat→Nat→Prop} {F:Nat→Prop} (hl:cs.length=vs.size) (h:∀ (j:Nat) (c:AV) (u:Value),cs[j]?=some c→vs[j]?=some u→RelA X c u (fs j)) (hd:∀ j k b,j < cs.length→k < cs.length→fs j b→fs k b→j=k) (hF:∀ j b,j < cs.length→fs j b→F b) :
  ∃ F':Nat→Prop,(∀ b,F' b→F b)∧RelA (bare X n) (.agg (cs.map f)) (.agg vs) F'∧RelA (bare X n) (.tup (cs.map f)) (.tuple vs) F':=by
 obtain ⟨fs',h1,h2⟩:=lst_rel hf (us:=vs.toList) (by simpa using hl) (fun j c u hj hu=>h j c u hj (by simpa using hu))
 refine ⟨fun b=>∃ j,j < cs.length∧fs' j b,fun b ⟨j,hj,hb⟩=>hF j b hj (h1 j b hb),?_,?_⟩
 ·exact .agg _ vs fs' _ (by simpa using hl) (fun j c u hj hu=>h2 j c u hj (by simpa using hu)) (fun j k b hj hk e1 e2=>hd j k b (by simpa using hj) (by simpa using hk) (h1 j b e1) (h1 k b e2)) (fun b=>by simp)
 ·exact .tup _ vs fs' _ (by simpa using hl) (fun j c u hj hu=>h2 j c u hj (by simpa using hu)) (fun j k b hj hk e1 e2=>hd j k b (by simpa using hj) (by simpa using hk) (h1 j b e1) (h1 k b e2)) (fun b=>by simp)
theorem cl0_pl {bx:List Nat} {n:Nat} (hb:∀ id∈bx,id < 1000000→id < n) {c:AV} {u:Value} (h:RelV X c u):RelV (bare X n) (cl0 bx c) u:=by
 cases h with
 | int k n=>exact .int k n
 | u8 b=>exact .u8 b
 | bool b=>exact .bool b
 | str l=>exact .str l
 | val v=>exact .val _
 | nilS=>exact .nilS
 | dat d v h=>exact .dat d u h
 | dep d i off g o h0 h1 hRg h=>exact .dep d i off g o h0 h1 hRg h
 | ptr id off v hid h =>
  show RelV (bare X n) (if id < 1000000 then (if memN id bx then .ptr id off else .any) else .any) u
  split
  ·rename_i hlt
   split
   ·rename_i hm
    exact .ptr id off _ (hb id (memN_mem hm) hlt) h
   ·exact .any _
  ·exact .any _
 | slf id T v hid h =>
  show RelV (bare X n) (if id < 1000000 then (if memN id bx then .slf id T else .any) else .any) u
  split
  ·rename_i hlt
   split
   ·rename_i hm
    exact .slf id T _ (hb id (memN_mem hm) hlt) h
   ·exact .any _
  ·exact .any _
 | _=>exact .any _
theorem cl1_rel {bx:List Nat} {n:Nat} (hb:∀ id∈bx,id < 1000000→id < n) {c:AV} {u:Value} {F:Nat→Prop} (h:RelA X c u F):∃ F':Nat→Prop,(∀ b,F' b→F b)∧RelA (bare X n) (cl1 bx c) u F':=by
 by_cases hc:∃ cs,c=.agg cs
 ·obtain ⟨cs,rfl⟩:=hc
  cases h with
  | agg cs vs fs F hl h hd hF =>
   obtain ⟨F',h1,h2,_⟩:=lstV_rel (n:=n) (fun h=>cl0_rel hb h) hl h hd (fun j b hj hb=>(hF b).2 ⟨j,hj,hb⟩)
   exact ⟨F',h1,h2⟩
  | pl c v F h hF =>
   cases h with
   | agg cs vs hl h =>
    obtain ⟨F',h1,h2,_⟩:=lstV_rel (n:=n) (F:=F) (fun h=>cl0_rel hb h) hl (fun j c u hj hu=>.pl c u (fun _=>False) (h j c u hj hu) fun _ h=>h) (fun _ _ _ _ _ h=>h.elim) (fun _ _ _ h=>h.elim)
    exact ⟨F',h1,h2⟩
 ·by_cases hfn:∃ f fs cs,c=.fn f fs cs
  ·obtain ⟨f,fs,cs,rfl⟩:=hfn
   cases h with
   | fn f cs vs fs F hl h hd hF =>
    obtain ⟨fs',h1,h2⟩:=lst_rel (n:=n) (fun h=>cl0_rel hb h) (us:=vs.toList) (by simpa using hl) (fun j c u hj hu=>h j c u hj (by simpa using hu))
    refine ⟨fun b=>∃ j,j < cs.length∧fs' j b,fun b ⟨j,hj,hb⟩=>(hF b).2 ⟨j,hj,h1 j b hb⟩,?_⟩
    exact .fn f _ vs fs' _ (by simpa using hl) (fun j c u hj hu=>h2 j c u hj (by simpa using hu)) (fun j k b hj hk e1 e2=>hd j k b (by simpa using hj) (by simpa using hk) (h1 j b e1) (h1 k b e2)) (fun b=>by simp)
   | pl c v F h hF =>
    cases h with
    | fn f fs cs fv cv hf hc h1 h2 =>
     have go:∀ (l:List AV) (vs:Array Value),(∀ (j:Nat) (c:AV) (u:Value),l[j]?=some c→vs[j]?=some u→RelV X c u)→∀ (j:Nat) (c:AV) (u:Value),(l.map (cl0 bx))[j]?=some c→vs[j]?=some u→RelV (bare X n) c u:=by
      intro l vs hr j c u hj hu
      rw [List.getElem?_map] at hj
      cases hcj:l[j]? with
      | none=>rw [hcj] at hj;cases hj
      | some c0=>rw [hcj] at hj;cases hj;exact cl0_pl hb (hr j c0 u hcj hu)
     exact ⟨fun _=>False,fun _ h=>h.elim,.pl _ _ _ (.fn f _ _ fv cv (by simpa using hf) (by simpa using hc) (go fs fv h1) (go cs cv h2)) (fun _ h=>h)⟩
  ·have e:cl1 bx c=cl0 bx c:=by cases c<;>first | rfl | exact absurd ⟨_,rfl⟩ hc | exact absurd ⟨_,_,_,rfl⟩ hfn
   rw [e]
   exact cl0_rel hb h
theorem clV_rel {bx:List Nat} {n:Nat} (hb:∀ id∈bx,id < 1000000→id < n) {c:AV} {u:Value} {F:Nat→Prop} (h:RelA X c u F):∃ F':Nat→Prop,(∀ b,F' b→F b)∧RelA (bare X n) (clV bx c) u F':=by
 by_cases hc:∃ cs,c=.tup cs
 ·obtain ⟨cs,rfl⟩:=hc
  cases h with
  | tup cs vs fs F hl h hd hF =>
   obtain ⟨F',h1,_,h2⟩:=lstV_rel (n:=n) (fun h=>cl1_rel hb h) hl h hd (fun j b hj hb=>(hF b).2 ⟨j,hj,hb⟩)
   exact ⟨F',h1,h2⟩
  | pl c v F h hF =>
   cases h with
   | tup cs vs hl h =>
    obtain ⟨F',h1,_,h2⟩:=lstV_rel (n:=n) (F:=F) (fun h=>cl1_rel hb h) hl (fun j c u hj hu=>.pl c u (fun _=>False) (h j c u hj hu) fun _ h=>h) (fun _ _ _ _ _ h=>h.elim) (fun _ _ _ h=>h.elim)
    exact ⟨F',h1,h2⟩
 ·have e:clV bx c=cl1 bx c:=by cases c<;>first | rfl | exact absurd ⟨_,rfl⟩ hc
  rw [e]
  exact cl1_rel hb h
theorem takeL_append:∀ (a b:List AV) (hp:Hp),takeL (a++b) hp=((takeL a hp).1++(takeL b (takeL a hp).2).1,(takeL b (takeL a hp).2).2)
 | [],_,_=>rfl
 | v :: a,b,hp=>by
  show ((take1 v hp).1 :: (takeL (a++b) (take1 v hp).2).1,(takeL (a++b) (take1 v hp).2).2)=_
  rw [takeL_append a b]
  rfl
theorem takeL_len:∀ (a:List AV) (hp:Hp),(takeL a hp).1.length=a.length
 | [],_=>rfl
 | v :: a,hp=>by simp [takeL,takeL_len a]
theorem takeLL_flat:∀ (ls:List (List AV)) (hp:Hp),(takeLL ls hp).1.flatten=(takeL ls.flatten hp).1∧(takeLL ls hp).2=(takeL ls.flatten hp).2∧(takeLL ls hp).1.map List.length=ls.map List.length
 | [],_=>⟨rfl,rfl,rfl⟩
 | v :: ls,hp=>by
  obtain ⟨h1,h2,h3⟩:=takeLL_flat ls (takeL v hp).2
  simp only [takeLL,List.flatten_cons,takeL_append,List.map_cons,takeL_len]
  exact ⟨by rw [h1],h2,by rw [h3]⟩
theorem bindL_append:∀ (a b:List AV) (hp:Hp) (n:Nat),bindL (a++b) hp n=((bindL a hp n).1++(bindL b (bindL a hp n).2.1 (bindL a hp n).2.2).1,(bindL b (bindL a hp n).2.1 (bindL a hp n).2.2).2)
 | [],_,_,_=>rfl
 | v :: a,b,hp,n=>by
  show ((bind1 v hp n).1 :: (bindL (a++b) (bind1 v hp n).2.1 (bind1 v hp n).2.2).1,(bindL (a++b) (bind1 v hp n).2.1 (bind1 v hp n).2.2).2)=_
  rw [bindL_append a b]
  rfl
theorem bindL_len:∀ (a:List AV) (hp:Hp) (n:Nat),(bindL a hp n).1.length=a.length
 | [],_,_=>rfl
 | v :: a,hp,n=>by simp [bindL,bindL_len a]
theorem bindLL_flat:∀ (ls:List (List AV)) (hp:Hp) (n:Nat),(bindLL ls hp n).1.flatten=(bindL ls.flatten hp n).1∧(bindLL ls hp n).2=(bindL ls.flatten hp n).2∧(bindLL ls hp n).1.map List.length=ls.map List.length
 | [],_,_=>⟨rfl,rfl,rfl⟩
 | v :: ls,hp,n=>by
  obtain ⟨h1,h2,h3⟩:=bindLL_flat ls (bindL v hp n).2.1 (bindL v hp n).2.2
  simp only [bindLL,List.flatten_cons,bindL_append,List.map_cons,bindL_len]
  exact ⟨by rw [h1],h2,by rw [h3]⟩
theorem takeVL_rel (hw:WRel X G) {cs:List AV} {us:List Value} (hl:cs.length=us.length) (hr:∀ (j:Nat) (c:AV) (u:Value),cs[j]?=some c→us[j]?=some u→RelV X c u):TakenL X G (takeVL cs X.hp) us :=
 takes_rel (f:=takeV) (tl:=takeVL) (fun _=>rfl) (fun _ _ _=>rfl) (fun hw _ _ h=>takeV_rel hw h) hw hl hr
theorem bindVL_rel (hw:WRel X G) {cs:List AV} {us:List Value} {fs:Nat→Nat→Prop} (h:Apart X G cs us fs):BoundL X G (bindVL cs X.hp X.nx) us (fun b=>∃ j,j < cs.length∧fs j b) :=
 binds_rel (f:=bindV) (bl:=bindVL) (fun _ _=>rfl) (fun _ _ _ _=>rfl) (fun hw _ _ _ h hF=>bindV_rel hw h hF) hw h
end
end Go.Ab
namespace Go.Ab
open Go
variable [GI]
section
variable {P:Program} {E:Env} {X Y Z:Ctx} {G:Beg} {o:Oper} {a:Act}
inductive BoxL (X:Ctx):List Nat→List (List AV)→List (Option Nat × Array Value)→Prop
 | nil:BoxL X [] [] []
 | cons (id:Nat) (t t':TypeId) (cs:List AV) (b:Nat) (arr:Array Value) {ids:List Nat} {ls:List (List AV)} {bl:List (Option Nat × Array Value)} (hlt:id < 1000000) (hb:hgt X.hp id=.box t cs) (hv:(X.ob id).v=.pointer (some ⟨b,0,none⟩))
   (hh:X.w.heap[b]?=some (.cells arr t' (0,0))) (hl:arr.size=cs.length) (hr:∀ (j:Nat) (c:AV) (u:Value),cs[j]?=some c→arr[j]?=some u→RelV X c u) (hF:∀ n,(X.ob id).F n↔n=b) (htg:TagC cs t') (h:BoxL X ids ls bl):BoxL X (id :: ids) (cs :: ls) ((some b,arr) :: bl)
 | row (id:Nat) {ids:List Nat} {ls:List (List AV)} {bl:List (Option Nat × Array Value)} (hge:¬ id < 1000000) (hx:id - 1000000 < X.nx) (h:BoxL X ids ls bl):BoxL X (id :: ids) ([.row (id - 1000000)] :: ls) ((none,#[(X.ob (id - 1000000)).v]) :: bl)
theorem boxes_rel (hw:WRel X G):∀ {bx:List Nat} {ls:List (List AV)},boxes bx X.hp=some ls→∃ bl,BoxL X bx ls bl
 | [],ls,h=>by cases h;exact ⟨[],.nil⟩
 | id :: ids,ls,h=>by
  unfold boxes at h
  split at h
  ·rename_i hlt
   split at h
   ·rename_i t cs hb
    split at h
    ·rename_i l hl
     cases h
     obtain ⟨bl,hbl⟩:=boxes_rel hw hl
     have ho:=hw.ob id
     unfold ObjOk at ho
     rw [hb] at ho
     obtain ⟨b,t',arr,h1,h2,h3,h4,h5,h6⟩:=ho
     exact ⟨_,.cons id t t' cs b arr hlt hb h1 h2 h3 h4 h5 h6 hbl⟩
    ·cases h
   ·cases h
  ·rename_i hge
   split at h
   ·rename_i o d hb
    split at h
    ·rename_i l hl
     cases h
     obtain ⟨bl,hbl⟩:=boxes_rel hw hl
     exact ⟨_,.row id hge (live_lt hw (by unfold live;rw [hb];simp)) hbl⟩
    ·cases h
   ·cases h
def flatV (bl:List (Option Nat × Array Value)):List Value:=(bl.map fun x=>x.2.toList).flatten
theorem BoxL.flat {bx:List Nat} {ls:List (List AV)} {bl:List (Option Nat × Array Value)} (h:BoxL X bx ls bl):ls.map List.length=bl.map (fun x=>x.2.size)∧ls.flatten.length=(flatV bl).length∧∀ (j:Nat) (c:AV) (u:Value),ls.flatten[j]?=some c→(flatV bl)[j]?=some u→RelV X c u:=by
 induction h with
 | nil=>exact ⟨rfl,rfl,fun j c u h=>by simp at h⟩
 | row id hge hx h ih =>
  obtain ⟨h0,h1,h2⟩:=ih
  refine ⟨by simp [h0],?_,fun j c u hj hu=>?_⟩
  ·simp only [flatV,List.map_cons,List.flatten_cons,List.length_append] at h1 ⊢
   simp only [List.length_cons,List.length_nil]
   omega
  ·simp only [flatV,List.map_cons,List.flatten_cons] at hj hu
   cases j with
   | zero =>
    simp at hj hu
    subst hj;subst hu
    exact .row _ _ hx rfl
   | succ j=>exact h2 j c u (by simpa using hj) (by simpa [flatV] using hu)
 | cons id t t' cs b arr hlt hb hv hh hl hr hF htg h ih =>
  obtain ⟨h0,h1,h2⟩:=ih
  refine ⟨by simp [h0,hl],?_,fun j c u hj hu=>?_⟩
  ·simp only [flatV,List.map_cons,List.flatten_cons,List.length_append,Array.length_toList] at h1 ⊢
   omega
  ·simp only [flatV,List.map_cons,List.flatten_cons] at hj hu
   by_cases hlt:j < cs.length
   ·rw [List.getElem?_append_left hlt] at hj
    rw [List.getElem?_append_left (by rw [Array.length_toList];omega)] at hu
    exact hr j c u hj (by simpa using hu)
   ·rw [List.getElem?_append_right (by omega)] at hj
    rw [List.getElem?_append_right (by rw [Array.length_toList];omega),Array.length_toList,hl] at hu
    exact h2 _ c u hj hu
theorem take0_box {hp:Hp} {id:Nat} {t:TypeId} {cs:List AV} (h:hgt hp id=.box t cs) (v:AV):hgt (take0 v hp).2 id=.box t cs:=by
 cases v with
 | row i =>
  show hgt (match hgt hp i with | .row o d=>(AV.own o d,hput i .dead hp) | _=>(.any,hp)).2 id=_
  cases hz:hgt hp i with
  | row q d =>
   show hgt (hput i .dead hp) id=_
   rw [hgt_hput]
   by_cases hi:i=id
   ·subst hi;rw [hz] at h;cases h
   ·rw [if_neg hi];exact h
  | _=>exact h
 | _=>exact h
theorem takeC_box {id:Nat} {t:TypeId} {cs:List AV}:∀ (l:List AV) {hp:Hp},hgt hp id=.box t cs→hgt (takeC l hp).2 id=.box t cs
 | [],_,h=>h
 | v :: l,_,h=>takeC_box l (take0_box h v)
theorem take1_box {hp:Hp} {id:Nat} {t:TypeId} {cs:List AV} (h:hgt hp id=.box t cs) (v:AV):hgt (take1 v hp).2 id=.box t cs:=by
 cases v<;>first | exact takeC_box _ h | exact take0_box h _
theorem takeL_box {id:Nat} {t:TypeId} {cs:List AV}:∀ (l:List AV) {hp:Hp},hgt hp id=.box t cs→hgt (takeL l hp).2 id=.box t cs
 | [],_,h=>h
 | v :: l,_,h=>takeL_box l (take1_box h v)
inductive BoxS (Y:Ctx):List (List AV)→List (Option Nat × Array Value)→Prop
 | nil:BoxS Y [] []
 | cons (cs:List AV) (b:Option Nat) (arr:Array Value) {ls:List (List AV)} {bl:List (Option Nat × Array Value)} (hl:arr.size=cs.length) (hr:∀ (j:Nat) (c:AV) (u:Value),cs[j]?=some c→arr[j]?=some u→RelV Y c u) (h:BoxS Y ls bl):BoxS Y (cs :: ls) ((b,arr) :: bl)
theorem BoxS.ext {ls:List (List AV)} {bl:List (Option Nat × Array Value)} (h:BoxS Y ls bl) (e:Ext Y Z):BoxS Z ls bl:=by
 induction h with
 | nil=>exact .nil
 | cons cs b arr hl hr h ih=>exact .cons cs b arr hl (fun j c u hj hu=>(hr j c u hj hu).ext e) ih
theorem unflat:∀ {ls:List (List AV)} {bl:List (Option Nat × Array Value)},ls.map List.length=bl.map (fun x=>x.2.size)→(∀ (j:Nat) (c:AV) (u:Value),ls.flatten[j]?=some c→(flatV bl)[j]?=some u→RelV Y c u)→BoxS Y ls bl
 | [],[],_,_=>.nil
 | [],_ :: _,h,_=>by cases h
 | _ :: _,[],h,_=>by cases h
 | cs :: ls,(b,arr) :: bl,h,hr=>by
  simp only [List.map_cons,List.cons.injEq] at h
  obtain ⟨h1,h2⟩:=h
  refine .cons cs b arr h1.symm (fun j c u hj hu=>hr j c u ?_ ?_) (unflat h2 fun j c u hj hu=>hr (cs.length+j) c u ?_ ?_)
  ·rw [List.flatten_cons,List.getElem?_append_left (List.getElem?_eq_some_iff.1 hj).1];exact hj
  ·simp only [flatV,List.map_cons,List.flatten_cons]
   rw [List.getElem?_append_left (by rw [Array.length_toList,← h1];exact (List.getElem?_eq_some_iff.1 hj).1)]
   simpa using hu
  ·rw [List.flatten_cons,List.getElem?_append_right (by omega),Nat.add_sub_cancel_left];exact hj
  ·simp only [flatV,List.map_cons,List.flatten_cons]
   have hal:arr.toList.length=cs.length:=by rw [Array.length_toList];exact h1.symm
   rw [List.getElem?_append_right (by omega),hal,Nat.add_sub_cancel_left]
   exact hu
theorem row_only {id:Nat} {u:Value} (h:RelV X (.row id) u):u=(X.ob id).v:=by
 cases h with | row _ _ _ h=>exact h
theorem rename_rel {n id:Nat} {o:Bool} {d:Data} (hw:WRel Y G) (hb:hgt Y.hp n=.row o d) (hv:(Y.ob n).v=(Y.ob id).v) (hk:d.k=(Y.ob id).k) (hid:id < Y.nx) :
  ∃ Z,Z.hp=hput id (.row o d) (hput n .dead Y.hp)∧Z.nx=Y.nx∧WRel Z G∧Same Y Z∧∀ F,Free Y G F→Free Z G F:=by
 have hl:live Y n:=by unfold live;rw [hb];simp
 have hn:=live_lt hw hl
 obtain ⟨_,hkk,ho⟩:=row_val hw (RelV.row n (Y.ob n).v hn rfl) hb
 have hF:=kill_free hw hl
 have w1:=kill_rel hw n
 have hold:id < (killC Y n).nx→(Y.ob n).v=((killC Y n).ob id).v∧d.k=((killC Y n).ob id).k:=fun _=>⟨hv,hk⟩
 have w2:=setRow_rel (X:=killC Y n) (id:=id) (q:=o) (d:=d) (v:=(Y.ob n).v) (nx:=Y.nx) w1 (Nat.le_refl _) hid hold hF ho
 have s2:=set_same (X:=killC Y n) (id:=id) (ob:=.row o d) (i:=⟨(Y.ob n).v,(Y.ob n).F,d.k⟩) (nx:=Y.nx) (Nat.le_refl _) hold
 refine ⟨setC (killC Y n) id (.row o d) ⟨(Y.ob n).v,(Y.ob n).F,d.k⟩ Y.nx,rfl,rfl,w2,(kill_same n).trans s2,fun F hf=>?_⟩
 exact (hf.foot (kill_foot n) rfl rfl fun _ _ h=>h).foot set_foot s2.w s2.R fun b h1 h2=>hf.nl n b hl h2 h1
inductive SlfIn:List (List AV)→List (List AV)→Prop
 | nil:SlfIn [] []
 | cons {a b:List AV} {l r:List (List AV)} (h:∀ (j i:Nat) (T:TypeId),a[j]?=some (.slf i T)→b[j]?=some (.slf i T)) (t:SlfIn l r):SlfIn (a :: l) (b :: r)
theorem SlfIn.head {a b:List AV} {l r:List (List AV)}:SlfIn (a :: l) (b :: r)→∀ (j i:Nat) (T:TypeId),a[j]?=some (.slf i T)→b[j]?=some (.slf i T)
 | .cons h _=>h
theorem SlfIn.tail {a b:List AV} {l r:List (List AV)}:SlfIn (a :: l) (b :: r)→SlfIn l r
 | .cons _ t=>t
theorem SlfIn.trans:∀ {a b c:List (List AV)},SlfIn a b→SlfIn b c→SlfIn a c
 | _,_,_,.nil,.nil=>.nil
 | _,_,_,.cons h t,.cons h' t'=>.cons (fun j i T e=>h' j i T (h j i T e)) (t.trans t')
theorem slfIn_take:∀ (ls:List (List AV)) (hp:Hp),SlfIn (takeLL ls hp).1 ls
 | [],_=>.nil
 | _ :: vs,_=>.cons (fun _ _ _ h=>takeL_slf h) (slfIn_take vs _)
theorem slfIn_bind:∀ (ls:List (List AV)) (hp:Hp) (n:Nat),SlfIn (bindLL ls hp n).1 ls
 | [],_,_=>.nil
 | _ :: vs,_,_=>.cons (fun _ _ _ h=>bindL_slf h) (slfIn_bind vs _ _)
theorem cl1_slf {bx:List Nat} {c:AV} {i:Nat} {T:TypeId} (h:cl1 bx c=.slf i T):c=.slf i T:=by
 cases c with
 | slf k U =>
  change (if k < 1000000 then (if memN k bx then AV.slf k U else .any) else .any)=.slf i T at h
  split at h
  ·split at h
   ·cases h;rfl
   ·cases h
  ·cases h
 | ptr k off =>
  change (if k < 1000000 then (if memN k bx then AV.ptr k off else .any) else .any)=.slf i T at h
  split at h
  ·split at h<;>cases h
  ·cases h
 | _=>cases h
theorem slfIn_cl (bx:List Nat):∀ ls:List (List AV),SlfIn (ls.map fun l=>l.map (cl1 bx)) ls
 | []=>.nil
 | l :: ls=>.cons (fun j i T h=>by
   rw [List.getElem?_map] at h
   cases hc:l[j]? with
   | none=>rw [hc] at h;cases h
   | some d=>rw [hc] at h;rw [cl1_slf (Option.some.inj h)]) (slfIn_cl bx ls)
theorem setBoxes_rel {old:Hp}:∀ {bx:List Nat} {ls0:List (List AV)} {bl:List (Option Nat × Array Value)} {ls:List (List AV)} {Y:Ctx},BoxL X bx ls0 bl→SlfIn ls ls0→nodupN bx=true→BoxS Y ls bl→WRel Y G→WRel X G →
  (∀ id∈bx,id < 1000000→id < Y.nx∧(Y.ob id).v=(X.ob id).v∧∃ t cs,hgt old id=.box t cs) →
  (∀ id∈bx,¬ id < 1000000→id - 1000000 < Y.nx∧(Y.ob (id - 1000000)).v=(X.ob (id - 1000000)).v∧∀ o d,hgt old (id - 1000000)=.row o d→d.k=(Y.ob (id - 1000000)).k)→Y.w=X.w →
  (∀ x∈bl,∀ b,x.1=some b→Free Y G (fun n=>n=b))→∃ Z,Z.hp=setBoxes bx ls old Y.hp∧Z.nx=Y.nx∧WRel Z G∧Same Y Z:=by
 intro bx ls0 bl ls Y hbl
 induction hbl generalizing ls Y with
 | nil=>intro _ _ hs hw _ _ _ _ _;cases hs;exact ⟨Y,rfl,rfl,hw,.refl Y⟩
 | @row id ids ls0 bl hge hx hrest ih =>
  intro hsl hnd hs hw hX hid hidr hwX hfr
  obtain ⟨hnd1,hnd2⟩:=(Bool.and_eq_true _ _ ▸ hnd:_∧_)
  cases hs with
  | cons cs _ _ hl hr hs =>
   have hsl2:=hsl.tail
   obtain ⟨g1,g2,g3⟩:=hidr id List.mem_cons_self hge
   have skip:rowBack (id - 1000000) cs old Y.hp=Y.hp→∃ Z,Z.hp=setBoxes (id :: ids) (cs :: _) old Y.hp∧Z.nx=Y.nx∧WRel Z G∧Same Y Z:=fun e=>by
    obtain ⟨Z,z1,z2,z3,z4⟩:=ih hsl2 hnd2 hs hw hX (fun i hi=>hid i (List.mem_cons_of_mem _ hi)) (fun i hi=>hidr i (List.mem_cons_of_mem _ hi)) hwX (fun x hx=>hfr x (List.mem_cons_of_mem _ hx))
    refine ⟨Z,?_,z2,z3,z4⟩
    show Z.hp=setBoxes ids _ old (if id < 1000000 then _ else rowBack (id - 1000000) cs old Y.hp)
    rw [if_neg hge,e,z1]
   unfold rowBack at skip
   split at skip
   ·rename_i n
    split at skip
    ·rename_i o d o0 d0 hn h0
     split at skip
     ·rename_i hkd
      have hrv:RelV Y (.row n) (X.ob (id - 1000000)).v:=hr 0 _ _ rfl (by simp)
      have hvn:=row_only hrv
      obtain ⟨Z1,y1,y2,y3,y4,y5⟩:=rename_rel (id:=id - 1000000) hw hn (by rw [← hvn,g2]) (by rw [hkd];exact g3 o0 d0 h0) g1
      obtain ⟨Z,z1,z2,z3,z4⟩:=ih hsl2 hnd2 (hs.ext y4.ext) y3 hX (fun i hi hlt=>by
       obtain ⟨e1,e2,e3⟩:=hid i (List.mem_cons_of_mem _ hi) hlt
       exact ⟨by rw [y2];exact e1,by rw [(y4.ext.ob i e1).1];exact e2,e3⟩) (fun i hi hlt=>by
       obtain ⟨e1,e2,e3⟩:=hidr i (List.mem_cons_of_mem _ hi) hlt
       exact ⟨by rw [y2];exact e1,by rw [(y4.ext.ob _ e1).1];exact e2,fun o d h=>by rw [(y4.ext.ob _ e1).2];exact e3 o d h⟩) (by rw [y4.w];exact hwX) (fun x hx b hb=>y5 _ (hfr x (List.mem_cons_of_mem _ hx) b hb))
      refine ⟨Z,?_,by rw [z2,y2],z3,y4.trans z4⟩
      rw [z1,y1]
      show _=setBoxes ids _ old (if id < 1000000 then _ else rowBack (id - 1000000) [.row n] old Y.hp)
      rw [if_neg hge]
      unfold rowBack
      simp only [hn,h0,if_pos hkd]
     ·exact skip rfl
    ·exact skip rfl
   ·exact skip rfl
 | @cons id t t' cs0 b arr ids ls0 bl hlt hb hv hh hl0 hr0 hF0 htg hrest ih =>
  intro hsl hnd hs hw hX hid hidr hwX hfr
  obtain ⟨hnd1,hnd2⟩:=(Bool.and_eq_true _ _ ▸ hnd:_∧_)
  cases hs with
  | cons cs _ _ hl hr hs =>
   have hsl0:=hsl.head
   have hsl:=hsl.tail
   obtain ⟨h1,h2,t1,c1,h3⟩:=hid id List.mem_cons_self hlt
   have hold:id < Y.nx→(.pointer (some ⟨b,0,none⟩):Value)=(Y.ob id).v∧(Y.ob id).k=(Y.ob id).k:=fun _=>⟨by rw [h2,hv],rfl⟩
   have w1:=setBox_rel (t:=t1) (t':=t') (arr:=arr) (k:=(Y.ob id).k) hw (Nat.le_refl _) h1 hold (hfr (some b,arr) List.mem_cons_self b rfl) (by rw [hwX];exact hh) hl hr (fun j i T hj=>htg j i T (hsl0 j i T hj))
   have s1:=set_same (X:=Y) (id:=id) (ob:=.box t1 cs) (i:=⟨.pointer (some ⟨b,0,none⟩),fun n=>n=b,(Y.ob id).k⟩) (Nat.le_refl _) hold
   have f1:Foot Y (setC Y id (.box t1 cs) ⟨.pointer (some ⟨b,0,none⟩),fun n=>n=b,(Y.ob id).k⟩ Y.nx) (fun n=>n=b):=set_foot
   generalize hY1:setC Y id (.box t1 cs) ⟨.pointer (some ⟨b,0,none⟩),fun n=>n=b,(Y.ob id).k⟩ Y.nx=Y1 at w1 s1 f1
   have y1n:Y1.nx=Y.nx:=by rw [← hY1]
   have y1h:Y1.hp=hput id (.box t1 cs) Y.hp:=by rw [← hY1]
   have hne:∀ x∈bl,∀ b',x.1=some b'→b'≠b:=by
    -- the blocks of other boxes are others
    have key:∀ {ids:List Nat} {ls0:List (List AV)} {bl:List (Option Nat × Array Value)},BoxL X ids ls0 bl→memN id ids=false→∀ x∈bl,∀ b',x.1=some b'→b'≠b:=by
     intro ids ls0 bl hbl
     induction hbl with
     | nil=>intro _ x hx;cases hx
     | row id2 hge2 hx2 hrest2 ih2 =>
      intro hm x hx
      unfold memN at hm
      split at hm
      ·cases hm
      ·cases hx with
       | head=>intro b' hb';cases hb'
       | tail _ hx=>exact ih2 hm x hx
     | @cons id2 t2 t2' cs2 b2 arr2 ids2 ls2 bl2 hlt2 hb2 hv2 hh2 hl2 hr2 hF2 htg2 hrest2 ih2 =>
      intro hm x hx
      unfold memN at hm
      split at hm
      ·cases hm
      ·rename_i hne
       cases hx with
       | head =>
        intro b' hb' e
        cases hb'
        exact hne (hX.dj id id2 b (box_live hb) (box_live hb2) ((hF0 b).2 rfl) ((hF2 b).2 e.symm))
       | tail _ hx=>exact ih2 hm x hx
    exact key hrest (by simpa using hnd1)
   obtain ⟨Z,z1,z2,z3,z4⟩:=ih hsl hnd2 (hs.ext s1.ext) w1 hX (fun i hi hlt=>by
    obtain ⟨g1,g2,g3⟩:=hid i (List.mem_cons_of_mem _ hi) hlt
    exact ⟨by rw [y1n];exact g1,by rw [(s1.ext.ob i g1).1];exact g2,g3⟩) (fun i hi hlt=>by
    obtain ⟨g1,g2,g3⟩:=hidr i (List.mem_cons_of_mem _ hi) hlt
    exact ⟨by rw [y1n];exact g1,by rw [(s1.ext.ob _ g1).1];exact g2,fun o d h=>by rw [(s1.ext.ob _ g1).2];exact g3 o d h⟩) (by rw [s1.w];exact hwX) (fun x hx b' hb'=>(hfr x (List.mem_cons_of_mem _ hx) b' hb').foot f1 s1.w s1.R fun n e1 e2=>hne x hx b' hb' (e1.symm.trans e2))
   refine ⟨Z,?_,by rw [z2,y1n],z3,s1.trans z4⟩
   rw [z1,y1h]
   show setBoxes ids _ old _=setBoxes ids _ old (if id < 1000000 then (match hgt old id with | .box t _=>hput id (.box t cs) Y.hp | _=>Y.hp) else _)
   rw [if_pos hlt,h3]
theorem gt_zipK {n:Nat} {r:Fr}:∀ {ns:List Nat} {vs:List AV},ns.length=vs.length→(∃ (i:Nat) (v:AV),ns[i]?=some n∧vs[i]?=some v∧gt (zipK ns vs r) n=v)∨gt (zipK ns vs r) n=gt r n
 | [],[],_=>.inr rfl
 | [],_ :: _,h=>by cases h
 | _ :: _,[],h=>by cases h
 | m :: ns,v :: vs,h=>by
  show (∃ (i:Nat) (v':AV),(m :: ns)[i]?=some n∧(v :: vs)[i]?=some v'∧(if m=n then v else gt (zipK ns vs r) n)=v')∨(if m=n then v else gt (zipK ns vs r) n)=gt r n
  by_cases hm:m=n
  ·rw [if_pos hm]
   exact .inl ⟨0,v,by simp [hm],rfl,rfl⟩
  ·rw [if_neg hm]
   rcases gt_zipK (n:=n) (r:=r) (ns:=ns) (vs:=vs) (by simpa using h) with ⟨i,v',h1,h2,h3⟩ | h1
   ·exact .inl ⟨i+1,v',by simpa using h1,by simpa using h2,h3⟩
   ·exact .inr h1
theorem aliK_some {fr:Fr} {keep:List Nat} {id:Nat} {v:AV}:∀ {ms:List Nat} {vs:List AV},aliK fr keep id ms vs=some v→∃ (i:Nat) (m:Nat),ms[i]?=some m∧vs[i]?=some v∧m∈keep∧gt fr m=.row id
 | [],vs,h=>by unfold aliK at h;cases h
 | _ :: _,[],h=>by unfold aliK at h;cases h
 | m :: ms,w :: vs,h=>by
  have rec_:aliK fr keep id ms vs=some v→∃ (i:Nat) (n:Nat),(m :: ms)[i]?=some n∧(w :: vs)[i]?=some v∧n∈keep∧gt fr n=.row id:=fun h=>by
   obtain ⟨i,n,h1,h2,h3⟩:=aliK_some h
   exact ⟨i+1,n,by simpa using h1,by simpa using h2,h3⟩
  unfold aliK at h
  split at h
  ·rename_i j hj
   split at h
   ·rename_i e
    split at h
    ·rename_i hm
     cases h
     exact ⟨0,m,rfl,rfl,memN_mem hm,by rw [hj,e]⟩
    ·exact rec_ h
   ·exact rec_ h
  ·exact rec_ h
theorem gt_keepK {fr:Fr} {n:Nat} {keep live:List Nat} {vs:List AV}:∀ {ns:List Nat},(n∈ns∧gt (keepK fr keep live vs ns) n=keepV fr keep live vs (gt fr n))∨gt (keepK fr keep live vs ns) n=.any
 | []=>.inr rfl
 | m :: ns=>by
  show (n∈m :: ns∧(if m=n then keepV fr keep live vs (gt fr m) else gt (keepK fr keep live vs ns) n)=keepV fr keep live vs (gt fr n))∨(if m=n then keepV fr keep live vs (gt fr m) else gt (keepK fr keep live vs ns) n)=.any
  by_cases hm:m=n
  ·rw [if_pos hm];exact .inl ⟨by simp [hm],by rw [hm]⟩
  ·rw [if_neg hm]
   rcases gt_keepK (fr:=fr) (n:=n) (ns:=ns) with ⟨h1,h2⟩ | h
   ·exact .inl ⟨List.mem_cons_of_mem _ h1,h2⟩
   ·exact .inr h
theorem keepV_cases (fr:Fr) (keep live:List Nat) (vs:List AV) (v:AV):keepV fr keep live vs v=v∨∃ (id i m:Nat),v=.row id∧live[i]?=some m∧vs[i]?=some (keepV fr keep live vs v)∧m∈keep∧gt fr m=.row id:=by
 unfold keepV
 split
 ·rename_i id
  split
  ·rename_i w h
   obtain ⟨i,m,h1,h2,h3,h4⟩:=aliK_some h
   exact .inr ⟨id,i,m,rfl,h1,h2,h3,h4⟩
  ·exact .inl rfl
 ·exact .inl rfl
theorem part_rel {X0 X':Ctx} {s0 s':St} {a0 a':Act} {live keep bx:List Nat} {M:List AV→List (List AV)→Prop} (h0:SRel X0 G s0 a0) (h':SRel X' G s' a') (e:Ext X0 X') (hnd:nodupN bx=true) (hsome:(boxes bx s0.hp).isSome=true)
  (hk:∀ t∈keep,a'.tmps.getD t undef=a0.tmps.getD t undef) (hm:meet live bx s' M):∃ vs bs X'',M vs bs∧X''.w=X'.w∧Ext X0 X''∧SRel X'' G (part live keep bx s0 vs bs) a':=by
 -- the live values are taken
 let cs:=live.map (gt s'.fr)
 let us:=live.map (fun n=>a'.tmps.getD n undef)
 have hlen:cs.length=us.length:=by simp [cs,us]
 obtain ⟨fs,w1,s1,f1,a1,k1⟩:=takeVL_rel (X:=X') (cs:=cs) (us:=us) h'.wr hlen (fun j c u hj hu=>by
  simp only [cs,us,List.getElem?_map] at hj hu
  cases hn:live[j]? with
  | none=>rw [hn] at hj;cases hj
  | some n=>rw [hn] at hj hu;cases hj;cases hu;exact h'.fr n)
 have hm':meetB bx (takeVL cs X'.hp).1 (takeVL cs X'.hp).2 M (boxes bx (takeVL cs X'.hp).2):=by rw [h'.hp];exact hm
 generalize takeVL cs X'.hp=T at w1 s1 f1 a1 k1 hm'
 obtain ⟨tvs,hp1⟩:=T
 simp only at w1 s1 f1 a1 k1 hm'
 cases hbx:boxes bx hp1 with
 | none=>rw [hbx] at hm';exact hm'.elim
 | some ls =>
 rw [hbx] at hm'
 have hM:M (tvs.map (clV bx)) ((takeLL ls hp1).1.map fun l=>l.map (cl1 bx)):=hm'
 generalize hX1:({ X' with hp:=hp1 }:Ctx)=X1 at w1 s1 f1 a1
 have x1h:X1.hp=hp1:=by rw [← hX1]
 have x1o:X1.ob=X'.ob:=by rw [← hX1]
 -- the boxes' contents are taken
 obtain ⟨bl,hbl⟩:=boxes_rel w1 (show boxes bx X1.hp=some ls by rw [x1h];exact hbx)
 obtain ⟨hbl0,hbl1,hbl2⟩:=hbl.flat
 obtain ⟨gs,w2,s2,f2,a2,k2⟩:=takeL_rel (X:=X1) w1 hbl1 hbl2
 obtain ⟨t1,t2,t3⟩:=takeLL_flat ls hp1
 rw [x1h] at w2 s2 f2 a2 k2
 have hbox2:∀ id t c,hgt X1.hp id=.box t c→hgt (takeL ls.flatten hp1).2 id=.box t c:=fun id t c h=>takeL_box _ (by rw [← x1h];exact h)
 generalize hU:takeL ls.flatten hp1=U at w2 s2 f2 a2 k2 t1 t2 hbox2
 obtain ⟨cvs,hp2⟩:=U
 simp only at w2 s2 f2 a2 k2 t1 t2 hbox2
 generalize hX2:({ X1 with hp:=hp2 }:Ctx)=X2 at w2 s2 f2 a2
 have x2h:X2.hp=hp2:=by rw [← hX2]
 have x2o:X2.ob=X'.ob:=by rw [← hX2];exact x1o
 have x2w:X2.w=X'.w:=s2.w.trans s1.w
 have a1':=a1.step s2 f2 fun _ _ _ _ h=>h
 have hcross:∀ i j b,i < tvs.length→j < cvs.length→fs i b→gs j b→False:=fun i j b hi hj e1 e2=>by
  obtain ⟨id,l1,l2⟩:=k2 j b hj e2
  exact (a1.free i hi).nl id b l1 l2 e1
 -- nothing has a place
 have hall:∀ {bx:List Nat},(boxes bx s0.hp).isSome=true→(∀ id∈bx,id < 1000000→id < X0.nx∧∃ t cs,hgt s0.hp id=.box t cs)∧(∀ id∈bx,¬ id < 1000000→id - 1000000 < X0.nx∧∀ o d,hgt s0.hp (id - 1000000)=.row o d→d.k=(X0.ob (id - 1000000)).k):=by
  intro bx
  induction bx with
  | nil =>
   intro _
   refine ⟨fun id h=>?_,fun id h=>?_⟩<;>exact absurd h (by simp)
  | cons i r ih =>
   intro hs
   unfold boxes at hs
   split at hs
   ·rename_i hlt
    split at hs
    ·rename_i t cs hb
     split at hs
     ·rename_i l hl
      obtain ⟨h1,h2⟩:=ih (by rw [hl];rfl)
      refine ⟨fun id hi hlt'=>?_,fun id hi hge=>?_⟩
      ·cases hi with
       | head=>exact ⟨live_lt h0.wr (by unfold Go.Ab.live;rw [h0.hp,hb];simp),t,cs,hb⟩
       | tail _ hi=>exact h1 id hi hlt'
      ·cases hi with
       | head=>exact absurd hlt hge
       | tail _ hi=>exact h2 id hi hge
     ·cases hs
    ·cases hs
   ·rename_i hge
    split at hs
    ·rename_i o d hb
     split at hs
     ·rename_i l hl
      obtain ⟨h1,h2⟩:=ih (by rw [hl];rfl)
      refine ⟨fun id hi hlt'=>?_,fun id hi hge'=>?_⟩
      ·cases hi with
       | head=>exact absurd hlt' hge
       | tail _ hi=>exact h1 id hi hlt'
      ·cases hi with
       | head =>
        have hlv:i - 1000000 < X0.nx:=live_lt h0.wr (by unfold Go.Ab.live;rw [h0.hp,hb];simp)
        refine ⟨hlv,fun o' d' h'=>?_⟩
        rw [← h0.hp] at h'
        exact (row_val h0.wr (RelV.row _ _ hlv rfl) h').2.1
       | tail _ hi=>exact h2 id hi hge'
     ·cases hs
    ·cases hs
 obtain ⟨hbox0,hrow0⟩:=hall hsome
 have hbn:∀ id∈bx,id < 1000000→id < X0.nx:=fun id hid hlt=>(hbox0 id hid hlt).1
 have wb:=bare_rel w2 X0.nx
 obtain ⟨fs',c1,c2⟩:=lst_rel (n:=X0.nx) (fun h=>clV_rel hbn h) a1'.len a1'.rel
 obtain ⟨gs',d1,d2⟩:=lst_rel (n:=X0.nx) (fun h=>cl1_rel hbn h) a2.len a2.rel
 have hfree:∀ {F:Nat→Prop},Free X2 G F→Free (bare X2 X0.nx) G F:=fun h=>⟨h.nr,fun _ _ h=>absurd rfl h,h.lt,h.ok⟩
 have ap1:Apart (bare X2 X0.nx) G (tvs.map (clV bx)) us fs':=⟨by rw [List.length_map];exact a1'.len,c2,fun i j b hi hj e1 e2=>a1'.dis i j b (by simpa using hi) (by simpa using hj) (c1 i b e1) (c1 j b e2),fun i hi=>hfree ((a1'.free i (by simpa using hi)).sub (c1 i))⟩
 have ap2:Apart (bare X2 X0.nx) G (cvs.map (cl1 bx)) (flatV bl) gs':=⟨by rw [List.length_map];exact a2.len,d2,fun i j b hi hj e1 e2=>a2.dis i j b (by simpa using hi) (by simpa using hj) (d1 i b e1) (d1 j b e2),fun i hi=>hfree ((a2.free i (by simpa using hi)).sub (d1 i))⟩
 obtain ⟨Y1,y1,y2,y3,y4,y5,y6,y7⟩:=bindVL_rel wb ap1
 have ap2':=ap2.step y4 y5 fun j b hj e1 ⟨i,hi,e2⟩=>hcross i j b (by simpa using hi) (by simpa using hj) (c1 i b e2) (d1 j b e1)
 obtain ⟨Y2,z1,z2,z3,z4,z5,z6,z7⟩:=bindL_rel y3 ap2'
 rw [y1,y2] at z1 z2 z6 z7
 change Y2.hp=(bindL (cvs.map (cl1 bx)) (bindVL (tvs.map (clV bx)) [] X0.nx).2.1 (bindVL (tvs.map (clV bx)) [] X0.nx).2.2).2.1 at z1
 change Y2.nx=(bindL (cvs.map (cl1 bx)) (bindVL (tvs.map (clV bx)) [] X0.nx).2.1 (bindVL (tvs.map (clV bx)) [] X0.nx).2.2).2.2 at z2
 change (bindL (cvs.map (cl1 bx)) (bindVL (tvs.map (clV bx)) [] X0.nx).2.1 (bindVL (tvs.map (clV bx)) [] X0.nx).2.2).1.length=_ at z6
 change ∀ (j:Nat) (c:AV) (u:Value),(bindL (cvs.map (cl1 bx)) (bindVL (tvs.map (clV bx)) [] X0.nx).2.1 (bindVL (tvs.map (clV bx)) [] X0.nx).2.2).1[j]?=some c→_ at z7
 change (bindVL (tvs.map (clV bx)) [] X0.nx).1.length=_ at y6
 change ∀ (j:Nat) (c:AV) (u:Value),(bindVL (tvs.map (clV bx)) [] X0.nx).1[j]?=some c→_ at y7
 -- the boxes are set
 let bs:=(takeLL ls hp1).1.map fun l=>l.map (cl1 bx)
 have hbsf:bs.flatten=cvs.map (cl1 bx):=by
  show ((takeLL ls hp1).1.map fun l=>l.map (cl1 bx)).flatten=_
  rw [← List.map_flatten,t1]
 have hbsl:bs.map List.length=bl.map (fun x=>x.2.size):=by
  show ((takeLL ls hp1).1.map fun l=>l.map (cl1 bx)).map List.length=_
  rw [List.map_map,← hbl0,← t3]
  congr 1
  funext l
  simp
 generalize hB1:(bindVL (tvs.map (clV bx)) [] X0.nx)=B1 at z1 z2 z6 z7 y6 y7
 obtain ⟨q1,q2,q3⟩:=bindLL_flat bs B1.2.1 B1.2.2
 rw [hbsf] at q1 q2
 have hS:BoxS Y2 (bindLL bs B1.2.1 B1.2.2).1 bl:=unflat (by rw [q3,hbsl]) (fun j c u hj hu=>z7 j c u (by rw [← q1];exact hj) hu)
 have sY:Same (bare X2 X0.nx) Y2:=y4.trans z4
 have x2n:X2.nx=X'.nx:=by rw [← hX2,← hX1]
 have hblX2:BoxL X2 bx (ls) bl:=by
  have:∀ {bx:List Nat} {ls:List (List AV)} {bl:List (Option Nat × Array Value)},BoxL X1 bx ls bl→BoxL X2 bx ls bl:=by
   intro bx ls bl h
   induction h with
   | nil=>exact .nil
   | cons id t t' cs b arr hlt hb hv hh hl hr hF htg h ih=>exact .cons id t t' cs b arr hlt (by rw [x2h];exact hbox2 _ _ _ hb) (by rw [x2o,← x1o];exact hv) (by rw [s2.w];exact hh) hl (fun j c u hj hu=>(hr j c u hj hu).ext s2.ext) (by rw [x2o,← x1o];exact hF) htg ih
   | row id hge hx h ih =>
    have e:(X1.ob (id - 1000000)).v=(X2.ob (id - 1000000)).v:=by rw [x2o,← x1o]
    rw [e]
    exact .row id hge (by rw [x2n];rw [← hX1] at hx;exact hx) ih
  exact this hbl
 have hfrB:∀ x∈bl,∀ b',x.1=some b'→Free Y2 G (fun n=>n=b'):=by
  have key:∀ {bx:List Nat} {ls:List (List AV)} {bl:List (Option Nat × Array Value)},BoxL X2 bx ls bl→∀ x∈bl,∀ b',x.1=some b'→∃ id,Go.Ab.live X2 id∧(X2.ob id).F b':=by
   intro bx ls bl h
   induction h with
   | nil=>intro x hx;cases hx
   | cons id t t' cs b arr hlt hb hv hh hl hr hF htg h ih =>
    intro x hx
    cases hx with
    | head=>intro b' hb';cases hb';exact ⟨id,box_live hb,(hF b).2 rfl⟩
    | tail _ hx=>exact ih x hx
   | row id hge hx0 h ih =>
    intro x hx
    cases hx with
    | head=>intro b' hb';cases hb'
    | tail _ hx=>exact ih x hx
  intro x hx b' hb'
  obtain ⟨id,l1,l2⟩:=key hblX2 x hx b' hb'
  have hfx:Free (bare X2 X0.nx) G (fun n=>n=b'):=⟨fun b hb=>by rw [hb];exact w2.dr id _ l1 l2,fun _ _ h=>absurd rfl h,fun b hb=>by rw [hb];exact live_lt_heap w2 l1 l2,fun b hb=>by rw [hb];exact w2.fn id _ l1 l2⟩
  refine (hfx.foot y5 y4.w y4.R fun b hb ⟨i,hi,e2⟩=>?_).foot z5 z4.w z4.R fun b hb ⟨j,hj,e2⟩=>?_
  ·exact (a1'.free i (by simpa using hi)).nl id b l1 (by rw [hb];exact l2) (c1 i b e2)
  ·exact (a2.free j (by simpa using hj)).nl id b l1 (by rw [hb];exact l2) (d1 j b e2)
 have hn2:X0.nx≤Y2.nx:=sY.ext.nx
 obtain ⟨Z,r1,r2,r3,r4⟩:=setBoxes_rel (X:=X2) (old:=s0.hp) hblX2 ((slfIn_bind bs _ _).trans ((slfIn_cl bx _).trans (slfIn_take ls hp1))) hnd hS z3 w2 (fun id hid hlt=>⟨Nat.lt_of_lt_of_le (hbn id hid hlt) hn2,(sY.ext.ob id (hbn id hid hlt)).1,(hbox0 id hid hlt).2⟩)
  (fun id hid hge=>⟨Nat.lt_of_lt_of_le (hrow0 id hid hge).1 hn2,(sY.ext.ob _ (hrow0 id hid hge).1).1,fun o d h=>by
   rw [(sY.ext.ob _ (hrow0 id hid hge).1).2]
   show d.k=(X2.ob (id - 1000000)).k
   rw [x2o,(e.ob _ (hrow0 id hid hge).1).2]
   exact (hrow0 id hid hge).2 o d h⟩) sY.w hfrB
 have eb:Ext X0 (bare X2 X0.nx):=⟨(s2.ext.ety.trans s1.ext.ety).trans e.ety,Nat.le_refl _,fun b hb=>by show X2.R b;rw [s2.R,s1.R];exact e.R b hb,fun b hb hs=>by show X2.w.heap[b]?=_;rw [x2w];exact e.mem b hb hs,
  fun id hid=>by show (X2.ob id).v=_∧(X2.ob id).k=_;rw [x2o];exact e.ob id hid⟩
 have eZ:Ext X0 Z:=Ext.trans (X:=X0) (Y:=bare X2 X0.nx) (Z:=Z) (fun b hb _=>wb.rl b (eb.R b hb)) eb (sY.trans r4).ext
 refine ⟨_,_,Z,hM,((sY.trans r4).w).trans x2w,eZ,?_⟩
 have hnx0:s0.nx=X0.nx:=h0.nx.symm
 have hpart:part live keep bx s0 (tvs.map (clV bx)) bs=⟨zipK live B1.1 (keepK s0.fr keep live B1.1 keep),setBoxes bx (bindLL bs B1.2.1 B1.2.2).1 s0.hp (bindLL bs B1.2.1 B1.2.2).2.1,(bindLL bs B1.2.1 B1.2.2).2.2⟩:=by
  unfold part
  rw [hnx0,hB1]
 show SRel Z G (part live keep bx s0 (tvs.map (clV bx)) bs) a'
 rw [hpart]
 refine ⟨?_,?_,h'.sz,h'.df,fun n=>?_,r3⟩
 ·rw [r1,z1,← q2]
 ·rw [r2,z2,← q2]
 ·have hl1:live.length=B1.1.length:=by rw [y6];simp [us]
  show RelV Z (gt (zipK live B1.1 (keepK s0.fr keep live B1.1 keep)) n) _
  rcases gt_zipK (n:=n) (r:=keepK s0.fr keep live B1.1 keep) hl1 with ⟨i,v,i1,i2,i3⟩ | h
  ·rw [i3]
   have:=y7 i v (a'.tmps.getD n undef) i2 (by simp only [us,List.getElem?_map,i1];rfl)
   exact this.ext (z4.trans r4).ext
  ·rw [h]
   rcases gt_keepK (fr:=s0.fr) (n:=n) (ns:=keep) (keep:=keep) (live:=live) (vs:=B1.1) with ⟨h1,h2⟩ | h2
   ·rw [h2]
    rcases keepV_cases s0.fr keep live B1.1 (gt s0.fr n) with he | ⟨id,i,m,e1,e2,e3,e4,e5⟩
    ·rw [he,hk n h1]
     exact (h0.fr n).ext eZ
    ·have hn:=h0.fr n
     have hm2:=h0.fr m
     rw [e1] at hn
     rw [e5] at hm2
     have ev:a'.tmps.getD n undef=a'.tmps.getD m undef:=by rw [hk n h1,hk m e4,row_only hn,row_only hm2]
     rw [ev]
     have:=y7 i _ (a'.tmps.getD m undef) e3 (by simp only [us,List.getElem?_map,e2];rfl)
     exact this.ext (z4.trans r4).ext
   ·rw [h2]
    exact .any _
end
end Go.Ab
namespace Go.Ab
open Go
variable [GI]
section
variable {P:Program} {E:Env} {X Y Z:Ctx} {G:Beg} {o:Oper} {a:Act}
theorem wp_loopI {Q:Exit→Act→World→Prop} {a:Act} {w:World} {c:Code} (I:Nat→Act→World→Prop) (n:Nat) (h₀:I n a w)
  (round:∀ n a w,I n a w→c.wp P (Exit.then (fun a' w'=>∃ m,m < n∧I m a' w') Q) a w):(Code.loop c).wp P Q a w:=by
 intro b k cs
 have key:∀ n a w,I n a w→∃ e a' w',Q e a' w'∧Arrives P (lone (b.at a (.code c :: .inLoop c :: k)) cs w) b k cs e a' w':=by
  intro n
  induction n using Nat.strongRecOn with
  | _ n ih =>
   intro a w hI
   obtain ⟨e,a₁,w₁,hq,harr⟩:=round n a w hI b (.inLoop c :: k) cs
   cases e with
   | normal =>
    obtain ⟨m,hlt,hI₁⟩:=hq
    obtain ⟨e₂,a₂,w₂,hq₂,harr₂⟩:=ih m hlt a₁ w₁ hI₁
    exact ⟨e₂,a₂,w₂,hq₂,.of_steps (Steps.trans harr (.one step_inLoop)) harr₂⟩
   | exit id=>exact ⟨_,a₁,w₁,hq,.pass (x:=.inLoop c) rfl (fun _ _=>.inl (by simp)) harr⟩
   | goto l=>exact ⟨_,a₁,w₁,hq,.pass (x:=.inLoop c) rfl (fun _ _=>.inl (by simp)) harr⟩
   | ret=>exact ⟨_,a₁,w₁,hq,.pass (x:=.inLoop c) rfl (fun _ _=>.inl (by simp)) harr⟩
   | panic ch=>exact ⟨_,a₁,w₁,hq,.pass (x:=.inLoop c) rfl (fun _ _=>.inl (by simp)) harr⟩
   | outgrown=>exact ⟨_,a₁,w₁,hq,.pass (x:=.inLoop c) rfl (fun _ _=>.inl (by simp)) harr⟩
 obtain ⟨e,a',w',hq,harr⟩:=key n a w h₀
 exact ⟨e,a',w',hq,.of_steps (.one step_loop) harr⟩
inductive MIt where
 | code (c:Code)
 | ops (all os:List Oper)
 | inB (id:Nat)
 | stop (keep:List Nat) (vals:Nat→Value) (X0:Ctx) (C:Act→World→Prop)
abbrev Go2:=(Act→World→Prop) × (Nat→Act→World→Prop)
def mkQ (Fin:Act→World→Prop) (p:Go2):Exit→Act→World→Prop
 | .normal,a,w=>p.1 a w
 | .exit id,a,w=>p.2 id a w
 | .ret,a,w=>Fin a w
 | _,_,_=>False
def sem (P:Program) (Fin:Act→World→Prop):List MIt→Go2
 | []=>(Fin,fun _ _ _=>False)
 | .code c :: k=>(fun a w=>c.wp P (mkQ Fin (sem P Fin k)) a w,(sem P Fin k).2)
 | .ops all os :: k=>(fun a w=>wpList P all.toArray (mkQ Fin (sem P Fin k)) os a w,(sem P Fin k).2)
 | .inB j :: k=>((sem P Fin k).1,fun id a w=>if id=j then (sem P Fin k).1 a w else (sem P Fin k).2 id a w)
 | .stop _ _ _ C :: k=>(C,(sem P Fin k).2)
def Kept:List MIt→Ctx→Act→Prop
 | [],_,_=>True
 | .stop keep vals X0 _ :: k,X,a=>Ext X0 X∧(∀ t∈keep,a.tmps.getD t undef=vals t)∧Kept k X a
 | _ :: k,X,a=>Kept k X a
def KeepIn:List MIt→Nat→Prop
 | [],_=>False
 | .stop keep _ _ _ :: k,t=>t∈keep∨KeepIn k t
 | _ :: k,t=>KeepIn k t
def Safe (N:Nat):List MIt→Prop
 | []=>True
 | .code c :: k=>okC c=true∧(∀ d∈wr c,d < N∧¬ KeepIn k d)∧Safe N k
 | .ops _ os :: k=>(∀ d∈wrO os,d < N∧¬ KeepIn k d)∧Safe N k
 | _ :: k=>Safe N k
def Match (G:Beg):List It→List MIt→Prop
 | [],[]=>True
 | .code c :: k,.code c' :: m=>c=c'∧Match G k m
 | .ops all os :: k,.ops all' os' :: m=>all=all'∧os=os'∧Match G k m
 | .inB j :: k,.inB j' :: m=>j=j'∧Match G k m
 | .back live bx I n :: k,.stop keep vals X0 C :: m=>(∀ i,i < n→∀ s X a,SRel X G s a→Kept (.stop keep vals X0 C :: m) X a→meet live bx s (I i)→C a X.w)∧Match G k m
 | .join live bx M :: k,.stop keep vals X0 C :: m=>(∀ s X a,SRel X G s a→Kept (.stop keep vals X0 C :: m) X a→meet live bx s M→C a X.w)∧Match G k m
 | _,_=>False
theorem Kept.ext:∀ {m:List MIt},Kept m X a→WRel X G→Ext X Y→Kept m Y a
 | [],_,_,_=>trivial
 | .stop keep vals X0 _ :: m,h,hw,e=>⟨Ext.trans (fun b hb _=>hw.rl b (h.1.R b hb)) h.1 e,h.2.1,Kept.ext (m:=m) h.2.2 hw e⟩
 | .code _ :: m,h,hw,e=>Kept.ext (m:=m) h hw e
 | .ops _ _ :: m,h,hw,e=>Kept.ext (m:=m) h hw e
 | .inB _ :: m,h,hw,e=>Kept.ext (m:=m) h hw e
theorem put_getD {dst:Option Tmp} {u:Value} {t:Nat} (h:∀ d,dst=some d→d≠t):(a.put dst u).tmps.getD t undef=a.tmps.getD t undef:=by
 cases dst with
 | none=>rfl
 | some d =>
  show (a.tmps.setIfInBounds d u).getD t undef=_
  simp only [Array.getD_eq_getD_getElem?,Array.getElem?_setIfInBounds]
  rw [if_neg (h d rfl)]
theorem Kept.put {dst:Option Tmp} {u:Value}:∀ {m:List MIt},Kept m X a→(∀ d,dst=some d→¬ KeepIn m d)→Kept m X (a.put dst u)
 | [],_,_=>trivial
 | .stop keep vals X0 _ :: m,h,hd=>⟨h.1,fun t ht=>by rw [put_getD fun d e he=>hd d e (.inl (by rw [he];exact ht))];exact h.2.1 t ht,Kept.put (m:=m) h.2.2 fun d e hk=>hd d e (.inr hk)⟩
 | .code _ :: m,h,hd=>Kept.put (m:=m) h hd
 | .ops _ _ :: m,h,hd=>Kept.put (m:=m) h hd
 | .inB _ :: m,h,hd=>Kept.put (m:=m) h hd
theorem exit_match {Fin:Act→World→Prop} {N id:Nat}:∀ {k k':List It} {m:List MIt},exitTo' id k=some k'→Match G k m→Safe N m→∃ m',Match G k' m'∧Safe N m'∧(∀ a w,(sem P Fin m').1 a w→(sem P Fin m).2 id a w)∧(∀ X a,Kept m X a→Kept m' X a):=by
 intro k
 induction k with
 | nil=>intro k' m h;cases h
 | cons i k ih =>
  intro k' m h hm hs
  cases i with
  | inB j =>
   cases m with
   | nil=>exact hm.elim
   | cons x m =>
    cases x<;>first | exact hm.elim | skip
    rename_i j'
    obtain ⟨rfl,hm⟩:=hm
    simp only [exitTo'] at h
    split at h
    ·rename_i e
     cases h
     exact ⟨m,hm,hs,fun a w hh=>by show if id=j then _ else _;rw [if_pos e.symm];exact hh,fun X a h=>h⟩
    ·rename_i e
     obtain ⟨m',h1,h2,h3,h4⟩:=ih h hm hs
     exact ⟨m',h1,h2,fun a w hh=>by show if id=j then _ else _;rw [if_neg fun e'=>e e'.symm];exact h3 a w hh,h4⟩
  | code c =>
   cases m with
   | nil=>exact hm.elim
   | cons x m =>
    cases x<;>first | exact hm.elim | skip
    obtain ⟨_,hm⟩:=hm
    obtain ⟨m',h1,h2,h3,h4⟩:=ih (show exitTo' id k=some k' from h) hm hs.2.2
    exact ⟨m',h1,h2,h3,h4⟩
  | ops all os =>
   cases m with
   | nil=>exact hm.elim
   | cons x m =>
    cases x<;>first | exact hm.elim | skip
    obtain ⟨_,_,hm⟩:=hm
    obtain ⟨m',h1,h2,h3,h4⟩:=ih (show exitTo' id k=some k' from h) hm hs.2
    exact ⟨m',h1,h2,h3,h4⟩
  | back live bx I n =>
   cases m with
   | nil=>exact hm.elim
   | cons x m =>
    cases x<;>first | exact hm.elim | skip
    obtain ⟨_,hm⟩:=hm
    obtain ⟨m',h1,h2,h3,h4⟩:=ih (show exitTo' id k=some k' from h) hm hs
    exact ⟨m',h1,h2,h3,fun X a h=>h4 X a h.2.2⟩
  | join live bx M =>
   cases m with
   | nil=>exact hm.elim
   | cons x m =>
    cases x<;>first | exact hm.elim | skip
    obtain ⟨_,hm⟩:=hm
    obtain ⟨m',h1,h2,h3,h4⟩:=ih (show exitTo' id k=some k' from h) hm hs
    exact ⟨m',h1,h2,h3,fun X a h=>h4 X a h.2.2⟩
theorem gval_wanted {s:St} (h:SRel X G s a) {all:List Oper} {j:Nat} {want g:Bool} (hg:gval all s.fr j want=some g):(yielded all.toArray a.tmps j == some want)=g:=by
 unfold gval at hg
 split at hg
 rotate_left
 ·cases hg
 rename_i d hd
 have hfr:=h.fr d
 have hy:yielded all.toArray a.tmps j=match a.tmps[d]? with | some (.bool b)=>some b | _=>none:=by
  unfold yielded
  rw [show (all.toArray[j]?).bind (·.dst)=some d by rw [List.getElem?_toArray];exact hd]
  rfl
 have hb:∀ b,a.tmps.getD d undef=.bool b→yielded all.toArray a.tmps j=some b:=by
  intro b hh
  rw [hy]
  rw [Array.getD_eq_getD_getElem?] at hh
  cases hz:a.tmps[d]? with
  | none=>rw [hz] at hh;cases hh
  | some v=>rw [hz] at hh;cases hh;rfl
 have hu:a.tmps.getD d undef=undef→yielded all.toArray a.tmps j=none:=by
  intro hh
  rw [hy]
  rw [Array.getD_eq_getD_getElem?] at hh
  cases hz:a.tmps[d]? with
  | none=>rfl
  | some v=>rw [hz] at hh;cases hh;rfl
 split at hg
 ·rename_i b hb'
  cases hg
  rw [hb'] at hfr
  rw [hb b hfr.bool_inv]
  cases b<;>cases want<;>rfl
 ·rename_i g0 b hb'
  cases hg
  rw [hb'] at hfr
  generalize a.tmps.getD d undef=v at hfr hb hu
  cases hfr with
  | opt _ _ _ h1 h2 =>
   cases g0 with
   | true =>
    rw [hb b (h1 rfl).bool_inv]
    cases b<;>cases want<;>rfl
   | false=>rw [hu (h2 rfl)];rfl
 ·cases hg
theorem opReq_all {fr:Fr}:∀ {l:List Operand},(∀ q,opReq fr l=some q→q)→∀ x∈l,∀ q,(ev fr x).req=some q→q
 | y :: l,h,x,hx=>by
  have ⟨h1,h2⟩:=cjo_all (a:=(ev fr y).req) (b:=opReq fr l) h
  cases hx with
  | head=>exact h1
  | tail _ hx=>exact opReq_all h2 x hx
theorem evx_rel {s:St} (h:SRel X G s a) {op:Op} (hq:∀ q,reqx op s.fr=some q→q):∀ x∈op.operands.toList,RelV X (evx op s.fr x) (a.eval x):=by
 intro x hx
 unfold evx
 cases hp:isPick op with
 | true=>exact h.ev x
 | false =>
  show RelV X (ev s.fr x).un _
  refine (h.ev x).un (opReq_all (fun q e=>hq q ?_) x hx)
  unfold reqx
  rw [hp]
  exact e
end
end Go.Ab
namespace Go.Ab
open Go
variable [GI]
section
variable {P:Program} {E:Env} {G:Beg} {all:List Oper} {hs:List Nat}
theorem memN_iff {n:Nat}:∀ {l:List Nat},memN n l=true↔n∈l
 | []=>by simp [memN]
 | m :: r=>by
  by_cases h:n=m
  ·simp [memN,h]
  ·simp [memN,h,memN_iff (l:=r)]
theorem nodupN_iff:∀ {l:List Nat},nodupN l=true→l.Nodup
 | [],_=>.nil
 | n :: r,h=>by
  simp only [nodupN,Bool.and_eq_true,Bool.not_eq_true'] at h
  refine List.nodup_cons.2 ⟨fun hm=>?_,nodupN_iff h.2⟩
  rw [← memN_iff] at hm
  rw [hm] at h
  cases h.1
theorem lenF_congr {l:List Nat} {f g:Nat→Bool} (h:∀ x∈l,f x=g x):lenF l f=lenF l g:=by
 unfold lenF
 rw [List.filter_congr h]
theorem lenF_add {l:List Nat} (hn:l.Nodup) {f g:Nat→Bool} {i:Nat} (hi:i∈l) (hf:f i=false) (hg:g i=true) (h:∀ x∈l,x≠i→f x=g x):lenF l g=lenF l f+1:=by
 unfold lenF
 induction l with
 | nil=>cases hi
 | cons x l ih =>
  have hx:=List.nodup_cons.1 hn
  by_cases e:x=i
  ·subst e
   rw [List.filter_cons_of_pos hg,List.filter_cons_of_neg (by rw [hf];simp)]
   have:l.filter g=l.filter f:=List.filter_congr fun y hy=>(h y (List.mem_cons_of_mem _ hy) fun e=>hx.1 (e ▸ hy)).symm
   rw [this]
   rfl
  ·have hi':i∈l:=by cases hi with | head=>exact absurd rfl e | tail _ h=>exact h
   have:=ih hx.2 hi' fun y hy=>h y (List.mem_cons_of_mem _ hy)
   have hxe:=h x List.mem_cons_self e
   cases hgx:g x with
   | true=>rw [List.filter_cons_of_pos hgx,List.filter_cons_of_pos (by rw [hxe,hgx]),List.length_cons,List.length_cons,this]
   | false=>rw [List.filter_cons_of_neg (by rw [hgx];simp),List.filter_cons_of_neg (by rw [hxe,hgx];simp),this]
abbrev cntH (hs ord:List Nat) (p:Nat):Nat:=lenF hs (bef ord p)
theorem idx_at {ord:List Nat} (ho:ord.Nodup) {p i:Nat} (hi:ord[p]?=some i):ord.idxOf i=p:=by
 obtain ⟨hp,rfl⟩:=List.getElem?_eq_some_iff.1 hi
 exact ho.idxOf_getElem p hp
theorem idx_inj {ord:List Nat} {p i x:Nat} (hi:ord[p]?=some i) (h:ord.idxOf x=p):x=i:=by
 obtain ⟨hp,rfl⟩:=List.getElem?_eq_some_iff.1 hi
 subst h
 exact (List.getElem_idxOf hp).symm
theorem bef_succ {ord:List Nat} (ho:ord.Nodup) {p i:Nat} (hi:ord[p]?=some i) (x:Nat):bef ord (p+1) x=if x=i then true else bef ord p x:=by
 have h1:=idx_at ho hi
 unfold bef
 by_cases h:x=i
 ·subst h;rw [if_pos rfl];simp;omega
 ·rw [if_neg h]
  have:ord.idxOf x≠p:=fun e=>h (idx_inj hi e)
  simp;omega
theorem cntH_succ (hn:hs.Nodup) {ord:List Nat} (ho:ord.Nodup) {p i:Nat} (hi:ord[p]?=some i):cntH hs ord (p+1)=cntH hs ord p+if memN i hs then 1 else 0:=by
 have h1:=idx_at ho hi
 by_cases h:i∈hs
 ·rw [if_pos (memN_iff.2 h)]
  exact lenF_add hn h (by unfold bef;simp;omega) (by rw [bef_succ ho hi,if_pos rfl]) fun x _ hx=>by rw [bef_succ ho hi,if_neg hx]
 ·rw [if_neg (by rw [memN_iff];exact h)]
  exact lenF_congr fun x hx=>by
   have:x≠i:=fun e=>h (e ▸ hx)
   rw [bef_succ ho hi,if_neg this]
def Fv (all:List Oper) (V:Nat→AV) (fr:Fr) (D:Nat→Bool) (t:Nat):AV :=
 match wIdx all t with
 | some k=>if D k then V k else gt fr t
 | none=>gt fr t
def recV (RS:List Rec) (ord:List Nat) (k:Nat):AV:=match RS[ord.idxOf k]? with
 | some r=>r.V
 | none=>.any
def OpFact (E:Env) (all:List Oper) (hs ord:List Nat) (H0:List (Hp × Nat)) (V:Nat→AV) (fr0:Fr) (p k:Nat) (o:Oper) (r:Rec):Prop :=
 (∀ t,gt r.s.fr t=Fv all V fr0 (bef ord p) t)∧H0[cntH hs ord p]?=some (r.s.hp,r.s.nx) ∧
 ((memN k hs=false∧o.guard=none∧r.g=none∧stepP E (bare' o) (ev r.s.fr) r.s.hp=some (r.p,r.v)∧(∀ q,r.p=some q→q)) ∨
  (memN k hs=false∧∃ j want g,o.guard=some (j,want)∧r.g=some g∧gval all r.s.fr j want=some g∧stepP E (bare' o) (evx o.op r.s.fr) r.s.hp=some (r.p,r.v)∧(g=true→∀ q,cjo (reqx o.op r.s.fr) r.p=some q→q)) ∨
  (memN k hs=true∧o.guard=none∧r.g=none∧∃ hp nx,H0[cntH hs ord p+1]?=some (hp,nx)∧stepH E (bare' o) (ev r.s.fr) r.s.hp r.s.nx=some (r.p,r.v,hp,nx)∧(∀ q,r.p=some q→q)))
theorem wIdx_lt:∀ {all:List Oper} {t k:Nat},wIdx all t=some k→∃ o,all[k]?=some o∧o.dst=some t
 | [],t,k,h=>by cases h
 | o :: os,t,k,h=>by
  simp only [wIdx] at h
  split at h
  ·rename_i hd
   cases h
   exact ⟨o,rfl,hd⟩
  ·cases hw:wIdx os t with
   | none=>rw [hw] at h;cases h
   | some j =>
    rw [hw] at h
    cases h
    obtain ⟨o',h1,h2⟩:=wIdx_lt hw
    exact ⟨o',by simpa using h1,h2⟩
theorem put1_hp {s:St} {d:Option Tmp} {v:AV} {hp:Hp} {nx:Nat}:(put1 s d v hp nx).hp=hp:=by cases d<;>rfl
theorem put1_nx {s:St} {d:Option Tmp} {v:AV} {hp:Hp} {nx:Nat}:(put1 s d v hp nx).nx=nx:=by cases d<;>rfl
theorem drop_get {α:Type} {l r:List α} {x:α} {p:Nat} (h:l.drop p=x :: r):l[p]?=some x∧l.drop (p+1)=r:=by
 have h1:(l.drop p)[0]?=some x:=by rw [h];rfl
 have h2:(l.drop p).drop 1=r:=by rw [h];rfl
 rw [List.getElem?_drop] at h1
 rw [List.drop_drop] at h2
 exact ⟨h1,h2⟩
theorem DT.facts (hn:hs.Nodup) {ord:List Nat} (ho:ord.Nodup) (hlt:∀ h∈hs,h∈ord) (hall:∀ k,k < all.length→k∈ord) (hu:∀ (k:Nat) (o:Oper) (d:Nat),all[k]?=some o→o.dst=some d→wIdx all d=some k) {is:List Nat} {os:List Oper} {s:St} {rs:List Rec} {hps:List (Hp × Nat)} {s':St} (h:DT E all hs is os s rs hps s'):∀ (H0:List (Hp × Nat)) (RS:List Rec) (fr0:Fr) (p:Nat),
  ord.drop p=is→(∀ (q i:Nat) (o:Oper),is[q]?=some i→os[q]?=some o→all[i]?=some o)→RS.drop p=rs→H0[cntH hs ord p]?=some (s.hp,s.nx)→H0.drop (cntH hs ord p+1)=hps→(∀ t,gt s.fr t=Fv all (recV RS ord) fr0 (bef ord p) t) →
  (∀ (q k:Nat),p≤q→ord[q]?=some k→∃ (o:Oper) (r:Rec),all[k]?=some o∧RS[q]?=some r∧OpFact E all hs ord H0 (recV RS ord) fr0 q k o r) ∧
  (∀ t,gt s'.fr t=Fv all (recV RS ord) fr0 (fun _=>true) t)∧H0[hs.length]?=some (s'.hp,s'.nx):=by
 have hput:∀ {p i:Nat} {o:Oper} {s:St} {v:AV} {hp:Hp} {nx:Nat} {RS:List Rec} {fr0:Fr},ord[p]?=some i→all[i]?=some o→recV RS ord i=v→(∀ t,gt s.fr t=Fv all (recV RS ord) fr0 (bef ord p) t) →
   ∀ t,gt (put1 s o.dst v hp nx).fr t=Fv all (recV RS ord) fr0 (bef ord (p+1)) t:=by
  intro p i o s v hp nx RS fr0 hi hoi hv hf t
  have same:∀ t,o.dst≠some t→Fv all (recV RS ord) fr0 (bef ord (p+1)) t=Fv all (recV RS ord) fr0 (bef ord p) t:=by
   intro t ht
   unfold Fv
   cases hw:wIdx all t with
   | none=>rfl
   | some k =>
    have:k≠i:=fun e=>by
     subst e
     obtain ⟨o',h1,h2⟩:=wIdx_lt hw
     rw [hoi] at h1
     cases h1
     exact ht h2
    simp only [bef_succ ho hi,if_neg this]
  unfold put1
  cases hd:o.dst with
  | none=>simp only;rw [hf t,same t (by rw [hd];simp)]
  | some d =>
   simp only
   rw [gt_cons]
   by_cases e:d=t
   ·subst e
    rw [if_pos rfl]
    unfold Fv
    rw [hu i o d hoi hd]
    simp [hv,bef_succ ho hi]
   ·rw [if_neg e,hf t,same t (by rw [hd];simp [e])]
 have hstep:∀ {p i:Nat} {o:Oper} {r:Rec} {H0:List (Hp × Nat)} {RS:List Rec} {fr0:Fr} {A:Prop},ord[p]?=some i→all[i]?=some o→RS[p]?=some r→OpFact E all hs ord H0 (recV RS ord) fr0 p i o r →
   ((∀ (q k:Nat),p+1≤q→ord[q]?=some k→∃ (o:Oper) (r:Rec),all[k]?=some o∧RS[q]?=some r∧OpFact E all hs ord H0 (recV RS ord) fr0 q k o r)∧A)→((∀ (q k:Nat),p≤q→ord[q]?=some k→∃ (o:Oper) (r:Rec),all[k]?=some o∧RS[q]?=some r∧OpFact E all hs ord H0 (recV RS ord) fr0 q k o r)∧A):=by
  intro p i o r H0 RS fr0 A h0 h1 h2 h3 ⟨h4,h5⟩
  refine ⟨fun q k hk hq=>?_,h5⟩
  rcases Nat.lt_or_eq_of_le hk with hlt | rfl
  ·exact h4 q k hlt hq
  ·rw [h0] at hq
   cases hq
   exact ⟨o,r,h1,h2,h3⟩
 induction h with
 | @nil s =>
  intro H0 RS fr0 p h1 hp h2 h3 h4 h5
  have hlen:ord.length≤p:=List.drop_eq_nil_iff.1 h1
  have hb:∀ k∈ord,bef ord p k=true:=fun k hk=>by
   have:=List.idxOf_lt_length_iff.2 hk
   unfold bef;simp;omega
  refine ⟨fun q k hk hq=>?_,fun t=>?_,?_⟩
  ·have:=(List.getElem?_eq_some_iff.1 hq).1
   omega
  ·rw [h5 t]
   unfold Fv
   cases hw:wIdx all t with
   | none=>rfl
   | some k =>
    obtain ⟨o',h1,h2⟩:=wIdx_lt hw
    have:=(List.getElem?_eq_some_iff.1 h1).1
    simp only
    rw [if_pos (hb k (hall k this))]
    rfl
  ·rw [← h3]
   congr 1
   unfold cntH lenF
   rw [List.filter_eq_self.2 fun x hx=>hb x (hlt x hx)]
 | @p i is o os s p' v rs hps s' hi hg hst hq h ih =>
  intro H0 RS fr0 p h1 hp h2 h3 h4 h5
  obtain ⟨hoi,h1'⟩:=drop_get h1
  obtain ⟨hr,h2'⟩:=drop_get h2
  have hal:=hp 0 i o rfl rfl
  have hc:=cntH_succ hn ho hoi
  rw [if_neg (by rw [hi];simp)] at hc
  replace hc:cntH hs ord (p+1)=cntH hs ord p:=hc
  exact hstep hoi hal hr ⟨h5,h3,.inl ⟨hi,hg,rfl,hst,hq⟩⟩ (ih H0 RS fr0 (p+1) h1' (fun q i' o' a b=>hp (q+1) i' o' (by simpa using a) (by simpa using b)) h2' (by rw [hc,put1_hp,put1_nx];exact h3) (by rw [hc];exact h4) (hput hoi hal (by simp [recV,idx_at ho hoi,hr,Rec.V]) h5))
 | @g i is o os s p' v rs hps s' j want g hi hg hv hst hq h ih =>
  intro H0 RS fr0 p h1 hp h2 h3 h4 h5
  obtain ⟨hoi,h1'⟩:=drop_get h1
  obtain ⟨hr,h2'⟩:=drop_get h2
  have hal:=hp 0 i o rfl rfl
  have hc:=cntH_succ hn ho hoi
  rw [if_neg (by rw [hi];simp)] at hc
  replace hc:cntH hs ord (p+1)=cntH hs ord p:=hc
  exact hstep hoi hal hr ⟨h5,h3,.inr (.inl ⟨hi,j,want,g,hg,rfl,hv,hst,hq⟩)⟩ (ih H0 RS fr0 (p+1) h1' (fun q i' o' a b=>hp (q+1) i' o' (by simpa using a) (by simpa using b)) h2' (by rw [hc,put1_hp,put1_nx];exact h3) (by rw [hc];exact h4) (hput hoi hal (by simp [recV,idx_at ho hoi,hr,Rec.V]) h5))
 | @h i is o os s p' v hp' nx rs hps s' hi hg hst hq h ih =>
  intro H0 RS fr0 p h1 hp h2 h3 h4 h5
  obtain ⟨hoi,h1'⟩:=drop_get h1
  obtain ⟨hr,h2'⟩:=drop_get h2
  have hal:=hp 0 i o rfl rfl
  have hc:=cntH_succ hn ho hoi
  rw [if_pos hi] at hc
  have hnext:H0[cntH hs ord p+1]?=some (hp',nx):=by
   have:(H0.drop (cntH hs ord p+1))[0]?=some (hp',nx):=by rw [h4];rfl
   rwa [List.getElem?_drop] at this
  have hrest:H0.drop (cntH hs ord p+1+1)=hps:=by
   have:(H0.drop (cntH hs ord p+1)).drop 1=hps:=by rw [h4];rfl
   rwa [List.drop_drop] at this
  exact hstep hoi hal hr ⟨h5,h3,.inr (.inr ⟨hi,hg,rfl,hp',nx,hnext,hst,hq⟩)⟩ (ih H0 RS fr0 (p+1) h1' (fun q i' o' a b=>hp (q+1) i' o' (by simpa using a) (by simpa using b)) h2' (by rw [hc,put1_hp,put1_nx];exact hnext) (by rw [hc];exact hrest) (hput hoi hal (by simp [recV,idx_at ho hoi,hr,Rec.V]) h5))
theorem cloL_pre:∀ (os:List Oper) (acc:List (List Nat)),∃ r,cloL os acc=acc++r∧r.length=os.length
 | [],acc=>⟨[],by simp [cloL]⟩
 | o :: os,acc=>by
  obtain ⟨r,h,hl⟩:=cloL_pre os (acc++[o.after.toList.flatMap fun e=>if bindE e then e.on :: acc.getD e.on [] else []])
  refine ⟨(o.after.toList.flatMap fun e=>if bindE e then e.on :: acc.getD e.on [] else []) :: r,?_,by simp [hl]⟩
  show cloL os _=_
  rw [h,List.append_assoc]
  rfl
theorem cloL_get:∀ (os:List Oper) (acc:List (List Nat)) (i:Nat) (o:Oper),os[i]?=some o→(∀ e∈o.after.toList,bindE e=true→e.on < acc.length+i) →
  ∀ j∈(cloL os acc).getD (acc.length+i) [],∃ e∈o.after.toList,bindE e=true∧(j=e.on∨j∈(cloL os acc).getD e.on [])
 | [],acc,i,o,h,_,_,_=>by simp at h
 | o' :: os,acc,0,o,h,he,j,hj=>by
  simp at h
  subst h
  obtain ⟨r,hr,_⟩:=cloL_pre os (acc++[o'.after.toList.flatMap fun e=>if bindE e then e.on :: acc.getD e.on [] else []])
  have hc:cloL (o' :: os) acc=acc++([o'.after.toList.flatMap fun e=>if bindE e then e.on :: acc.getD e.on [] else []]++r):=by
   show cloL os _=_
   rw [hr,List.append_assoc]
  have hpre:∀ k,k < acc.length→(cloL (o' :: os) acc).getD k []=acc.getD k []:=fun k hk=>by
   rw [hc]
   simp [List.getD,List.getElem?_append_left hk]
  have hx:(cloL (o' :: os) acc).getD (acc.length+0) []=o'.after.toList.flatMap fun e=>if bindE e then e.on :: acc.getD e.on [] else []:=by
   rw [hc]
   simp [List.getD]
  rw [hx] at hj
  obtain ⟨e,h1,h2⟩:=List.mem_flatMap.1 hj
  split at h2
  ·rename_i hb
   refine ⟨e,h1,hb,?_⟩
   rw [hpre e.on (he e h1 hb)]
   simpa using h2
  ·cases h2
 | o' :: os,acc,i+1,o,h,he,j,hj=>by
  have:=cloL_get os (acc++[o'.after.toList.flatMap fun e=>if bindE e then e.on :: acc.getD e.on [] else []]) i o (by simpa using h)
   (fun e h1 h2=>by have:=he e h1 h2;simp;omega)
  have hlen:(acc++[o'.after.toList.flatMap fun e=>if bindE e then e.on :: acc.getD e.on [] else []]).length+i=acc.length+(i+1):=by simp;omega
  rw [hlen] at this
  exact this j hj
theorem nthO_get:∀ (l:List Oper) (n:Nat),nthO l n=l[n]?
 | [],n=>by simp [nthO]
 | o :: r,n=>by
  rw [nthO]
  cases n with
  | zero=>rfl
  | succ n=>rw [if_neg (Nat.succ_ne_zero n),Nat.add_sub_cancel,nthO_get r n];simp
theorem perO_get:∀ (ord:List Nat),(∀ i∈ord,i < all.length)→∀ (q i:Nat) (o:Oper),ord[q]?=some i→(perO all ord)[q]?=some o→all[i]?=some o
 | [],_,q,i,o,h,_=>by simp at h
 | j :: r,hl,q,i,o,h,k=>by
  have hj:=hl j List.mem_cons_self
  have e:perO all (j :: r)=all[j] :: perO all r:=by
   show perC (nthO all j) _=_
   rw [nthO_get,List.getElem?_eq_getElem hj];rfl
  rw [e] at k
  cases q with
  | zero =>
   simp at h k
   subst h
   rw [List.getElem?_eq_getElem hj,k]
  | succ q=>exact perO_get r (fun x hx=>hl x (List.mem_cons_of_mem _ hx)) q i o (by simpa using h) (by simpa using k)
structure AltS (all:List Oper) (cl:List (List Nat)) (hs:List Nat) (A:Alt):Prop where
 nd:A.ord.Nodup
 mem:∀ k,k < all.length→k∈A.ord
 lt:∀ i∈A.ord,i < all.length
 par:∀ (q i:Nat) (o:Oper),A.ord[q]?=some i→(osOf all A)[q]?=some o→all[i]?=some o
 at_:∀ (p i:Nat),A.ord[p]?=some i→∃ o,all[i]?=some o∧(∀ j∈cl.getD i [],bef A.ord p j=true)∧(∀ t∈looks all o,∀ k,wIdx all t=some k→ordB cl i k=true)∧(memN i hs=true→o.guard=none) ∧
  (memN i hs=false→∀ c,c≤hs.length→inT cl hs (A.ord.filter fun i=>memN i hs) i c=true→c=cntH hs A.ord p∨c∈A.iv.getD p [])
theorem drawOk1_get {cl:List (List Nat)} {ord:List Nat} {iv:List (List Nat)}:∀ {is:List Nat} {p q i:Nat},drawOk1 all cl hs ord iv p is=true→is[q]?=some i →
  ∃ o,all[i]?=some o∧(∀ j∈cl.getD i [],bef ord (p+q) j=true)∧(∀ t∈looks all o,∀ k,wIdx all t=some k→ordB cl i k=true)∧(memN i hs=true→o.guard=none) ∧
  (memN i hs=false→∀ c,c≤hs.length→inT cl hs (ord.filter fun i=>memN i hs) i c=true→c=cntH hs ord (p+q)∨c∈iv.getD (p+q) [])
 | [],p,q,i,_,h=>by simp at h
 | j :: r,p,q+1,i,h,hk=>by
  simp only [drawOk1,Bool.and_eq_true] at h
  have:=drawOk1_get h.2 (show r[q]?=some i by simpa using hk)
  rwa [show p+1+q=p+(q+1) by omega] at this
 | j :: r,p,0,i,h,hk=>by
  simp at hk
  subst hk
  simp only [drawOk1,Bool.and_eq_true] at h
  obtain ⟨h,_⟩:=h
  cases ho:all[j]? with
  | none=>rw [ho] at h;cases h
  | some o =>
   rw [ho] at h
   simp only [Bool.and_eq_true,List.all_eq_true] at h
   obtain ⟨⟨h1,h2⟩,h4⟩:=h
   refine ⟨o,rfl,h1,fun t ht k hk=>?_,fun hm=>?_,fun hm c hc hl=>?_⟩
   ·have:=h2 t ht
    rw [hk] at this
    exact this
   ·rw [if_pos hm] at h4
    simpa using h4
   ·rw [if_neg (by rw [hm];simp)] at h4
    simp only [List.all_eq_true] at h4
    have:=h4 c (List.mem_range.2 (by omega))
    rw [hl] at this
    simp only [Bool.not_true,Bool.false_or,Bool.or_eq_true,beq_iff_eq,memN_iff] at this
    exact this
theorem altOk_get {cl:List (List Nat)} {A:Alt} (h:altOk all cl hs A=true):AltS all cl hs A:=by
 simp only [altOk,Bool.and_eq_true,List.all_eq_true,beq_iff_eq,Bool.or_eq_true,Bool.not_eq_true'] at h
 obtain ⟨⟨⟨⟨h1,h2⟩,h3⟩,h4⟩,h5⟩:=h
 refine ⟨nodupN_iff h1,fun k hk=>memN_iff.1 (h2 k (List.mem_range.2 hk)),fun i hi=>of_decide_eq_true (h3 i hi),fun q i o a b=>?_,fun p i hp=>?_⟩
 ·unfold osOf at b
  rcases h4 with h4 | h4
  ·rw [h4] at b
   exact perO_get A.ord (fun i hi=>of_decide_eq_true (h3 i hi)) q i o a b
  ·cases ht:A.1 with
   | false=>rw [ht] at b;exact perO_get A.ord (fun i hi=>of_decide_eq_true (h3 i hi)) q i o a b
   | true =>
    rw [ht] at b
    rw [h4] at a
    have:q=i:=by
     obtain ⟨hq,e⟩:=List.getElem?_eq_some_iff.1 a
     rw [List.getElem_range] at e
     exact e
    subst this
    exact b
 ·have:=drawOk1_get h5 hp
  rwa [Nat.zero_add] at this
theorem edgeOk_get:∀ {os:List Oper} {i k:Nat} {o:Oper},edgeOk all i os=true→os[k]?=some o→(∀ e∈o.after.toList,bindE e=true→e.on < i+k)∧(∀ d,o.dst=some d→wIdx all d=some (i+k))
 | [],i,k,o,_,h=>by simp at h
 | o' :: os,i,k+1,o,h,hk=>by
  simp only [edgeOk,Bool.and_eq_true] at h
  have:=edgeOk_get h.2 (show os[k]?=some o by simpa using hk)
  rwa [show i+1+k=i+(k+1) by omega] at this
 | o' :: os,i,0,o,h,hk=>by
  simp at hk
  subst hk
  simp only [edgeOk,Bool.and_eq_true,List.all_eq_true] at h
  obtain ⟨⟨h1,h3⟩,_⟩:=h
  refine ⟨fun e he hb=>?_,fun d hd=>?_⟩
  ·have:=h1 e he
   rw [hb] at this
   simpa using this
  ·rw [hd] at h3
   simpa using h3
theorem least:∀ {l:List Nat},l≠[]→∃ h∈l,∀ x∈l,h≤x
 | [],h=>absurd rfl h
 | [x],_=>⟨x,List.mem_cons_self,fun y hy=>by cases hy with | head=>exact Nat.le_refl _ | tail _ h=>cases h⟩
 | x :: y :: r,_=>by
  obtain ⟨h,hm,hl⟩:=least (l:=y :: r) (by simp)
  by_cases hx:x≤h
  ·exact ⟨x,List.mem_cons_self,fun z hz=>by cases hz with | head=>exact Nat.le_refl _ | tail _ hz=>exact Nat.le_trans hx (hl z hz)⟩
  ·exact ⟨h,List.mem_cons_of_mem _ hm,fun z hz=>by cases hz with | head=>omega | tail _ hz=>exact hl z hz⟩
theorem linE_cons {cl:List (List Nat)} {n h:Nat} {rem l:List Nat} (hm:h∈rem) (hmin:∀ x∈rem,memN x (cl.getD h [])=false) (hl:l∈linE cl n (rem.erase h)):h :: l∈linE cl (n+1) rem:=by
 rw [linE,List.mem_flatMap]
 refine ⟨h,hm,?_⟩
 rw [if_pos (by rw [List.all_eq_true];intro x hx;rw [hmin x hx];rfl)]
 exact List.mem_map_of_mem hl
theorem linE_some {cl:List (List Nat)} (hc:∀ i j,j∈cl.getD i []→j < i):∀ n rem,rem.length=n→∃ l,l∈linE cl n rem
 | 0,rem,_=>⟨[],by simp [linE]⟩
 | n+1,rem,hr=>by
  obtain ⟨h,hm,hmin⟩:=least (l:=rem) (by intro e;rw [e] at hr;cases hr)
  obtain ⟨l,hl⟩:=linE_some hc n (rem.erase h) (by rw [List.length_erase_of_mem hm,hr];rfl)
  exact ⟨h :: l,linE_cons hm (fun x hx=>by
   cases hb:memN x (cl.getD h []) with
   | false=>rfl
   | true=>have:=hc h x (memN_iff.1 hb);have:=hmin x hx;omega) hl⟩
theorem split_uniq {i:Nat}:∀ {a b c d:List Nat},i ∉ a→i ∉ c→a++i :: b=c++i :: d→a=c
 | [],_,[],_,_,_,_=>rfl
 | [],_,y :: c,_,_,h2,h=>by
  simp only [List.nil_append,List.cons_append,List.cons.injEq] at h
  exact absurd (h.1 ▸ List.mem_cons_self) h2
 | x :: a,_,[],_,h1,_,h=>by
  simp only [List.nil_append,List.cons_append,List.cons.injEq] at h
  exact absurd (h.1 ▸ List.mem_cons_self) h1
 | x :: a,_,y :: c,_,h1,h2,h=>by
  simp only [List.cons_append,List.cons.injEq] at h
  rw [h.1,split_uniq (fun hm=>h1 (List.mem_cons_of_mem _ hm)) (fun hm=>h2 (List.mem_cons_of_mem _ hm)) h.2]
theorem idx_lt_iff {pre post:List Nat} {i h:Nat} (hn:(pre++i :: post).Nodup):(pre++i :: post).idxOf h < (pre++i :: post).idxOf i↔h∈pre:=by
 have hi:i ∉ pre:=fun hm=>by
  rw [List.nodup_append] at hn
  exact hn.2.2 i hm i List.mem_cons_self rfl
 have e1:(pre++i :: post).idxOf i=pre.length:=by rw [List.idxOf_append,if_neg hi];simp
 rw [e1,List.idxOf_append]
 by_cases hm:h∈pre
 ·rw [if_pos hm]
  exact ⟨fun _=>hm,fun _=>List.idxOf_lt_length_iff.2 hm⟩
 ·rw [if_neg hm]
  exact ⟨fun hh=>absurd hh (by omega),fun hh=>absurd hh hm⟩
theorem cnt_pi (hn:hs.Nodup) {A:Alt} (ho:A.ord.Nodup) {sg l:List Nat} {i:Nat} (hp:piOf hs A=sg++i :: l):cntH hs A.ord (A.ord.idxOf i)=sg.length:=by
 have hip:i∈piOf hs A:=by rw [hp];simp
 unfold piOf at hip hp
 obtain ⟨hio,him⟩:=List.mem_filter.1 hip
 obtain ⟨pre,post,e⟩:=List.append_of_mem hio
 rw [e] at hp ho ⊢
 rw [List.filter_append,List.filter_cons_of_pos (p:=fun i=>memN i hs) him] at hp
 have hn1:(sg++i :: l).Nodup:=by
  rw [← hp,← List.filter_cons_of_pos (p:=fun i=>memN i hs) him,← List.filter_append]
  exact ho.filter _
 have hi1:i ∉ pre:=fun hm=>by
  rw [List.nodup_append] at ho
  exact ho.2.2 i hm i List.mem_cons_self rfl
 have hi2:i ∉ sg:=fun hm=>by
  rw [List.nodup_append] at hn1
  exact hn1.2.2 i hm i List.mem_cons_self rfl
 have hsg:pre.filter (fun i=>memN i hs)=sg:=split_uniq (fun hm=>hi1 (List.mem_filter.1 hm).1) hi2 hp
 have hpm:(hs.filter (bef (pre++i :: post) ((pre++i :: post).idxOf i))).Perm sg:=by
  refine (List.perm_ext_iff_of_nodup (hn.filter _) (List.nodup_append.1 hn1).1).2 fun h=>?_
  rw [← hsg,List.mem_filter,List.mem_filter,memN_iff]
  unfold bef
  rw [decide_eq_true_iff,idx_lt_iff ho]
  exact And.comm
 exact hpm.length_eq
theorem cnt_listed (hn:hs.Nodup) {sg:List Nat} (hs':sg.Nodup) {f:Nat→Bool} (h:∀ x,x∈sg↔x∈hs∧f x=true):lenF hs f=sg.length:=by
 have hpm:(hs.filter f).Perm sg:=(List.perm_ext_iff_of_nodup (hn.filter _) hs').2 fun x=>by rw [List.mem_filter,h x]
 exact hpm.length_eq
theorem stepP_congr {E:Env} {o:Oper} {e e':Operand→AV} {hp:Hp} (h:∀ x∈o.op.operands.toList,e x=e' x):stepP E o e hp=stepP E o e' hp:=by
 obtain ⟨dst,op,ty,pos,after,gd⟩:=o
 have hm:∀ l:List Operand,(∀ x∈l,e x=e' x)→l.map e=l.map e':=fun l hl=>List.map_congr_left hl
 have hmp:∀ l:List (Nat × Operand),(∀ x∈l.map (·.2),e x=e' x)→(l.map fun p=>(p.1,e p.2))=l.map fun p=>(p.1,e' p.2):=fun l hl=>List.map_congr_left fun p hp=>by rw [hl p.2 (List.mem_map_of_mem hp)]
 cases op
 case call c =>
  obtain ⟨cal,args,ats⟩:=c
  have ha:args.toList.map e=args.toList.map e':=hm _ fun x hx=>h x (by simp only [Op.operands,Call.operands];simp at hx ⊢;exact .inr hx)
  cases cal with
  | value f =>
   have hf:=h f (by simp [Op.operands,Call.operands])
   simp only [stepP,hf,ha]
  | builtin b =>
   cases b
   case len =>
    simp only [stepP]
    split
    ·rename_i x t hx ht
     rw [h x (by simp [Op.operands,Call.operands,← Array.mem_toList_iff,hx])]
    ·rfl
   all_goals first | rfl | simp only [stepP,ha]
  | invoke r m=>rfl
 case slice t x lo hi mx =>
  have hx:=h x (by simp [Op.operands])
  have hlo:lo.map e=lo.map e':=by
   cases lo with
   | none=>rfl
   | some y=>simp only [Option.map_some];rw [h y (by simp [Op.operands])]
  have hhi:hi.map e=hi.map e':=by
   cases hi with
   | none=>rfl
   | some y=>simp only [Option.map_some];rw [h y (by simp [Op.operands])]
  cases mx with
  | none=>simp only [stepP,hx,hlo,hhi]
  | some m=>rfl
 case makeFunc f first caps =>
  cases f with
  | func f=>simp only [stepP];rw [hm _ fun x hx=>h x (by simp only [Op.operands];simp at hx ⊢;exact .inl hx),hm _ fun x hx=>h x (by simp only [Op.operands];simp at hx ⊢;exact .inr hx)]
  | _=>rfl
 case build t ps=>simp only [stepP];rw [hmp _ fun x hx=>h x (by simpa [Op.operands] using hx)]
 case buildSlice t len ps=>simp only [stepP];rw [hmp _ fun x hx=>h x (by simpa [Op.operands] using hx)]
 all_goals first | rfl | (simp only [Op.operands,List.toList_toArray,List.mem_cons,List.not_mem_nil,or_false,forall_eq_or_imp,forall_eq] at h;simp only [stepP,h])
theorem stepH_congr {E:Env} {o:Oper} {e e':Operand→AV} {hp:Hp} {nx:Nat} (h:∀ x∈o.op.operands.toList,e x=e' x):stepH E o e hp nx=stepH E o e' hp nx:=by
 obtain ⟨dst,op,ty,pos,after,gd⟩:=o
 have hm:∀ l:List Operand,(∀ x∈l,e x=e' x)→l.map e=l.map e':=fun l hl=>List.map_congr_left hl
 have hmp:∀ l:List (Nat × Operand),(∀ x∈l.map (·.2),e x=e' x)→(l.map fun p=>(p.1,e p.2))=l.map fun p=>(p.1,e' p.2):=fun l hl=>List.map_congr_left fun p hp=>by rw [hl p.2 (List.mem_map_of_mem hp)]
 cases op
 case call c =>
  obtain ⟨cal,args,ats⟩:=c
  have ha:args.toList.map e=args.toList.map e':=hm _ fun x hx=>h x (by simp only [Op.operands,Call.operands];simp at hx ⊢;exact .inr hx)
  cases cal with
  | value f =>
   have hf:=h f (by simp [Op.operands,Call.operands])
   simp only [stepH,hf,ha]
  | builtin b =>
   cases b
   all_goals first | rfl | simp only [stepH,ha]
  | invoke r m=>rfl
 case slice t x lo hi mx =>
  have hx:=h x (by simp [Op.operands])
  cases lo with
  | some y=>rfl
  | none =>
   cases hi with
   | none=>rfl
   | some y =>
    cases mx with
    | none=>simp only [stepH,hx,h y (by simp [Op.operands])]
    | some m=>rfl
 case buildSlice t len ps=>simp only [stepH];rw [hmp _ fun x hx=>h x (by simpa [Op.operands] using hx)]
 all_goals first | rfl | (simp only [Op.operands,List.toList_toArray,List.mem_cons,List.not_mem_nil,or_false,forall_eq_or_imp,forall_eq] at h;simp only [stepH,h])
theorem ivOk_get {hps:List (Hp × Nat)}:∀ {iv:List (List Nat)} {os:List Oper} {rs:List Rec} {i:Nat} {o:Oper} {r:Rec},ivOk E hps iv os rs→os[i]?=some o→rs[i]?=some r →
  ∀ c∈iv.getD i [],∃ q,hps[c]?=some q∧stepP E (bare' o) (opEv o r.s.fr) q.1=some (r.p,r.v)
 | [],os,rs,i,o,r,h,h1,h2,c,hc=>by simp at hc
 | x :: iv,[],rs,i,o,r,h,h1,h2,c,hc=>by simp at h1
 | x :: iv,o' :: os,[],i,o,r,h,h1,h2,c,hc=>by simp at h2
 | [] :: iv,o' :: os,r' :: rs,0,o,r,h,h1,h2,c,hc=>by simp at hc
 | (x :: xs) :: iv,o' :: os,r' :: rs,0,o,r,h,h1,h2,c,hc=>by
  simp at h1 h2
  subst h1
  subst h2
  exact h.1 c (by simpa using hc)
 | [] :: iv,o' :: os,r' :: rs,i+1,o,r,h,h1,h2,c,hc=>ivOk_get (iv:=iv) (os:=os) (rs:=rs) h (by simpa using h1) (by simpa using h2) c (by simpa using hc)
 | (x :: xs) :: iv,o' :: os,r' :: rs,i+1,o,r,h,h1,h2,c,hc=>ivOk_get (iv:=iv) (os:=os) (rs:=rs) h.2 (by simpa using h1) (by simpa using h2) c (by simpa using hc)
theorem tmpsOf_mem:∀ {l:List Operand} {t:Nat},.tmp t∈l→t∈tmpsOf l
 | [],_,h=>by cases h
 | x :: l,t,h=>by
  cases h with
  | head=>exact List.mem_cons_self
  | tail _ h =>
   have:=tmpsOf_mem h
   cases x<;>first | exact List.mem_cons_of_mem _ this | exact this
theorem ev_congr {fr fr':Fr} {x:Operand} (h:∀ t,x=.tmp t→gt fr t=gt fr' t):ev fr x=ev fr' x:=by
 cases x with
 | tmp t=>exact h t rfl
 | _=>rfl
theorem opReq_congr {fr fr':Fr}:∀ {l:List Operand},(∀ x∈l,ev fr x=ev fr' x)→opReq fr l=opReq fr' l
 | [],_=>rfl
 | x :: l,h=>by
  simp only [opReq]
  rw [h x List.mem_cons_self,opReq_congr fun y hy=>h y (List.mem_cons_of_mem _ hy)]
theorem oper_bare {P:Program} {o:Oper} {a w K Q}:Oper.wp P o a w K Q=Oper.wp P (bare' o) a w K Q:=rfl
theorem SRel.congr {X:Ctx} {s s':St} {a:Act} (h:SRel X G s a) (h1:s'.hp=s.hp) (h2:s'.nx=s.nx) (h3:∀ t,gt s'.fr t=gt s.fr t):SRel X G s' a :=
 ⟨h1 ▸ h.hp,h2 ▸ h.nx,h.sz,h.df,fun n=>by rw [h3];exact h.fr n,h.wr⟩
theorem drawn_rel {X:Ctx} {s:St} {a:Act} (h:SRel X G s a) (n:Nat):SRel { X with w:={ X.w with drawn:=n } } G s a∧Ext X { X with w:={ X.w with drawn:=n } }:=by
 have e:Ext X { X with w:={ X.w with drawn:=n } }:=⟨rfl,Nat.le_refl _,fun _ h=>h,fun _ _ _=>rfl,fun _ _=>⟨rfl,rfl⟩⟩
 have hk:Keep (fun _=>False) X.w { X.w with drawn:=n }:=⟨rfl,rfl,rfl,Nat.le_refl _,fun _ _ _=>rfl⟩
 have hw:WRel { X with w:={ X.w with drawn:=n } } G:=grow_rel (R':=X.R) h.wr hk (fun _ h=>h) (fun _ h=>.inl h) h.wr.rl
 exact ⟨⟨h.hp,h.nx,h.sz,h.df,fun n=>(h.fr n).ext e,hw⟩,e⟩
theorem DT_len {is:List Nat} {os:List Oper} {s s':St} {rs:List Rec} {hps:List (Hp × Nat)} (h:DT E all hs is os s rs hps s'):os.length=is.length:=by
 induction h with
 | nil=>rfl
 | p _ _ _ _ _ ih=>simp [ih]
 | g _ _ _ _ _ _ ih=>simp [ih]
 | h _ _ _ _ _ ih=>simp [ih]
section main
variable {ops:Array Oper} {alts:List Alt} {RS:Alt→List Rec} {HP:Alt→List (Hp × Nat)} {S':Alt→St} {h0:Hp × Nat} {fr0:Fr}
abbrev lsF (listed:Array Bool) (i:Nat):Bool:=listed.getD i false
abbrev remF (hs:List Nat) (listed:Array Bool):List Nat:=hs.filter fun h=>!listed.getD h false
structure DInv (G:Beg) (all:List Oper) (hs:List Nat) (alts:List Alt) (RS:Alt→List Rec) (HP:Alt→List (Hp × Nat)) (h0:Hp × Nat) (fr0:Fr) (listed:Array Bool) (X:Ctx) (a:Act):Prop where
 sz:listed.size=all.length
 cl:∀ i,listed.getD i false=true→∀ j∈(cloL all []).getD i [],listed.getD j false=true
 rel:∃ (sg:List Nat) (fr:Fr) (hp:Hp) (nx:Nat),(∀ x,x∈sg↔x∈hs∧listed.getD x false=true)∧sg.Nodup ∧
  (∀ l∈linE (cloL all []) (remF hs listed).length (remF hs listed),∃ A∈alts,piOf hs A=sg++l) ∧
  (∀ A∈alts,(∃ l,piOf hs A=sg++l)→(∀ t,gt fr t=Fv all (recV (RS A) A.ord) fr0 (lsF listed) t)∧(h0 :: HP A)[sg.length]?=some (hp,nx)) ∧
  SRel X G ⟨fr,hp,nx⟩ a
theorem getD_set {l:Array Bool} {i j:Nat} (hi:i < l.size):(l.setIfInBounds i true).getD j false=if i=j then true else l.getD j false:=by
 simp only [Array.getD_eq_getD_getElem?,Array.getElem?_setIfInBounds]
 by_cases h:i=j
 ·subst h
  simp [hi]
 ·simp [h]
theorem getD_tf {l:Array Bool} {i:Nat} (hi:i < l.size):l.getD i true=l.getD i false:=by
 simp [Array.getD,hi]
theorem Fv_put {o:Oper} {i:Nat} {V:Nat→AV} {v:AV} {fr:Fr} {hp:Hp} {nx:Nat} {listed:Array Bool} (hlt:i < listed.size) (ho:all[i]?=some o) (hu:∀ (k:Nat) (o:Oper) (d:Nat),all[k]?=some o→o.dst=some d→wIdx all d=some k) (hv:V i=v)
  (hf:∀ t,gt fr t=Fv all V fr0 (lsF listed) t) (t:Nat):gt (put1 ⟨fr,hp,nx⟩ o.dst v hp nx).fr t=Fv all V fr0 (lsF (listed.setIfInBounds i true)) t:=by
 have hsame:∀ t,o.dst≠some t→Fv all V fr0 (lsF (listed.setIfInBounds i true)) t=Fv all V fr0 (lsF listed) t:=by
  intro t ht
  unfold Fv
  cases hw:wIdx all t with
  | none=>rfl
  | some k =>
   have:i≠k:=fun e=>by
    subst e
    obtain ⟨o',h1,h2⟩:=wIdx_lt hw
    rw [ho] at h1
    cases h1
    exact ht h2
   simp only [lsF,getD_set hlt,if_neg this]
 unfold put1
 cases hd':o.dst with
 | none=>simp only;rw [hf t,hsame t (by rw [hd'];simp)]
 | some d =>
  simp only
  rw [gt_cons]
  by_cases e:d=t
  ·subst e
   rw [if_pos rfl]
   unfold Fv
   rw [hu i o d ho hd']
   simp only [lsF,getD_set hlt,if_true,hv]
  ·rw [if_neg e,hf t,hsame t (by rw [hd'];simp [e])]
theorem put1_fr {fr:Fr} {hp hp':Hp} {nx nx':Nat} {d:Option Tmp} {v:AV}:(put1 ⟨fr,hp,nx⟩ d v hp' nx').fr=(put1 ⟨fr,hp',nx'⟩ d v hp' nx').fr:=by cases d<;>rfl
theorem draw_any (hE:EnvOk P E) (hok:drawOk ops.toList hs alts=true) {s:St} (hd:∀ A∈alts,DT E ops.toList hs A.ord (osOf ops.toList A) s (RS A) (HP A) (S' A)) (hiv:∀ A∈alts,ivOk E ((s.hp,s.nx) :: HP A) A.iv (osOf ops.toList A) (RS A))
  {m:List MIt} (hwr:∀ d∈wrO ops.toList,d < G.N∧¬ KeepIn m d) {Q:Exit→Act→World→Prop} {XS:Ctx} (hend:∀ A∈alts,∀ X a,SRel X G (S' A) a→X.ety=E.ety→Kept m X a→Ext XS X→Q .normal a X.w) :
  ∀ (fuel:Nat) (listed:Array Bool) (X:Ctx) (a:Act),(lenF (List.range ops.size) fun j=>!listed.getD j true)≤fuel→DInv G ops.toList hs alts RS HP (s.hp,s.nx) s.fr listed X a→X.ety=E.ety→Kept m X a→Ext XS X →
   wpAny P .any ops Q fuel listed a X.w:=by
 simp only [drawOk,Bool.and_eq_true,List.all_eq_true] at hok
 obtain ⟨⟨⟨⟨hn,hlt⟩,hedg⟩,hal⟩,_⟩:=hok
 replace hn:=nodupN_iff hn
 replace hlt:∀ h∈hs,h < ops.toList.length:=fun h hh=>by simpa using hlt h hh
 have hS:∀ A∈alts,AltS ops.toList (cloL ops.toList []) hs A:=fun A hA=>altOk_get (hal A hA)
 have hs1:∀ k o,ops.toList[k]?=some o→∀ e∈o.after.toList,bindE e=true→e.on < k:=fun k o hk=>by
  have:=(edgeOk_get hedg hk).1
  simpa using this
 have hu:∀ (k:Nat) (o:Oper) (d:Nat),ops.toList[k]?=some o→o.dst=some d→wIdx ops.toList d=some k:=fun k o d hk hd=>by
  have:=(edgeOk_get hedg hk).2 d hd
  simpa using this
 have hcl:∀ k o,ops.toList[k]?=some o→∀ j∈(cloL ops.toList []).getD k [],∃ e∈o.after.toList,bindE e=true∧(j=e.on∨j∈(cloL ops.toList []).getD e.on []):=fun k o hk j hj=>by
  have:=cloL_get ops.toList [] k o hk (fun e h1 h2=>by simpa using hs1 k o hk e h1 h2) j (by simpa using hj)
  exact this
 have hcin:∀ k,¬ k < ops.toList.length→(cloL ops.toList []).getD k []=[]:=fun k hk=>by
  obtain ⟨r,h1,h2⟩:=cloL_pre ops.toList []
  rw [h1,List.nil_append]
  simp [List.getD,List.getElem?_eq_none (show r.length≤k by omega)]
 have hclt:∀ i j,j∈(cloL ops.toList []).getD i []→j < i:=fun i=>by
  induction i using Nat.strongRecOn with
  | _ i ih =>
   intro j hj
   by_cases hi:i < ops.toList.length
   ·obtain ⟨e,h1,h2,h3⟩:=hcl i _ (List.getElem?_eq_getElem hi) j hj
    have:=hs1 i _ (List.getElem?_eq_getElem hi) e h1 h2
    rcases h3 with rfl | h3
    ·exact this
    ·exact Nat.lt_trans (ih e.on this j h3) this
   ·rw [hcin i hi] at hj;cases hj
 have hfacts:∀ A∈alts,_:=fun A hA=>DT.facts hn (hS A hA).nd (fun h hh=>(hS A hA).mem h (hlt h hh)) (hS A hA).mem hu (hd A hA) ((s.hp,s.nx) :: HP A) (RS A) s.fr 0 rfl (hS A hA).par rfl
  (by rw [show cntH hs A.ord 0=0 from by unfold cntH lenF;rw [List.filter_eq_nil_iff.2 (by simp [bef])];rfl];rfl)
  (by rw [show cntH hs A.ord 0=0 from by unfold cntH lenF;rw [List.filter_eq_nil_iff.2 (by simp [bef])];rfl];rfl)
  (fun t=>by unfold Fv;cases wIdx ops.toList t<;>simp [bef])
 have hsome:∀ {listed:Array Bool} {X:Ctx} {a:Act} {sg:List Nat},(∀ l∈linE (cloL ops.toList []) (remF hs listed).length (remF hs listed),∃ A∈alts,piOf hs A=sg++l)→∃ A∈alts,∃ l,piOf hs A=sg++l:=by
  intro listed X a sg h
  obtain ⟨l,hl⟩:=linE_some hclt _ (remF hs listed) rfl
  obtain ⟨A,h1,h2⟩:=h l hl
  exact ⟨A,h1,l,h2⟩
 have hdone:∀ (listed:Array Bool) (X:Ctx) (a:Act),(∀ j,j < ops.size→listed.getD j false=true)→DInv G ops.toList hs alts RS HP (s.hp,s.nx) s.fr listed X a→X.ety=E.ety→Kept m X a→Ext XS X→Q .normal a X.w:=by
  intro listed X a hall hi he hk hx
  obtain ⟨sg,fr,hp,nx,g1,g2,g3,g4,h3⟩:=hi.rel
  obtain ⟨A,hA,l,hl⟩:=hsome (listed:=listed) (X:=X) (a:=a) g3
  obtain ⟨h1,h2⟩:=g4 A hA ⟨l,hl⟩
  obtain ⟨hfact,hfin,hfin'⟩:=hfacts A hA
  have hcn:sg.length=hs.length:=by
   rw [← cnt_listed hn g2 g1]
   unfold lenF
   rw [List.filter_eq_self.2 fun x hx=>hall x (by simpa using hlt x hx)]
  rw [hcn,hfin'] at h2
  cases h2
  refine hend A hA X a (h3.congr rfl rfl fun t=>?_) he hk hx
  rw [hfin t]
  show _=gt fr t
  rw [h1 t]
  unfold Fv
  cases hw:wIdx ops.toList t with
  | none=>rfl
  | some k =>
   obtain ⟨o',h1,_⟩:=wIdx_lt hw
   have:=(List.getElem?_eq_some_iff.1 h1).1
   simp only [lsF,hall k (by simpa using this)]
 have hready:∀ (listed:Array Bool),listed.size=ops.toList.length→Region.ready .any ops listed=[]→∀ j,j < ops.size→listed.getD j false=true:=by
  intro listed hsz hr j
  induction j using Nat.strongRecOn with
  | _ j ih =>
   intro hj
   cases hl:listed.getD j false with
   | true=>rfl
   | false =>
    exfalso
    have hj':j < listed.size:=by rw [hsz];simpa using hj
    have:j∈Region.ready .any ops listed:=by
     unfold Region.ready
     rw [List.mem_filter]
     refine ⟨List.mem_range.2 hj,?_⟩
     rw [getD_tf hj',hl]
     simp only [Bool.not_false,Bool.true_and]
     have ho:ops[j]?=some ops[j]:=by simp [hj]
     rw [ho]
     simp only [Option.map_some,Option.getD_some]
     rw [Array.all_eq_true']
     intro e he
     have hoL:ops.toList[j]?=some ops[j]:=by simp [hj]
     cases hb:Region.binds .any e with
     | false=>rfl
     | true =>
      have h1:=hs1 j _ hoL e (by simpa using he) hb
      rw [ih e.on h1 (by omega)]
      rfl
    rw [hr] at this
    cases this
 intro fuel
 induction fuel with
 | zero =>
  intro listed X a hf hi he hk hx
  have hall:∀ j,j < ops.size→listed.getD j true=true:=by
   intro j hj
   cases hl:listed.getD j true with
   | true=>rfl
   | false =>
    exfalso
    have:j∈(List.range ops.size).filter (fun j=>!listed.getD j true):=by
     rw [List.mem_filter]
     exact ⟨List.mem_range.2 hj,by rw [hl];rfl⟩
    have h0:((List.range ops.size).filter (fun j=>!listed.getD j true)).length=0:=Nat.le_zero.1 hf
    rw [List.eq_nil_of_length_eq_zero h0] at this
    cases this
  have hall':∀ j,j < ops.size→listed.getD j false=true:=fun j hj=>by rw [← getD_tf (by rw [hi.sz];simpa using hj)];exact hall j hj
  refine ⟨?_,hdone listed X a hall' hi he hk hx⟩
  unfold Region.ready
  rw [List.filter_eq_nil_iff]
  intro j hj
  rw [hall j (List.mem_range.1 hj)]
  simp
 | succ fuel ih =>
  intro listed X a hf hi he hk hx
  refine ⟨fun hr=>hdone listed X a (hready listed hi.sz hr) hi he hk hx,fun i hi'=>?_⟩
  unfold Region.ready at hi'
  rw [List.mem_filter] at hi'
  obtain ⟨hir,hi'⟩:=hi'
  have hlti:i < ops.size:=List.mem_range.1 hir
  have hltL:i < ops.toList.length:=by simpa using hlti
  have hlti':i < listed.size:=by rw [hi.sz];simpa using hlti
  have hoA:ops[i]?=some ops[i]:=by simp [hlti]
  have ho:ops.toList[i]?=some ops[i]:=by simp [hlti]
  generalize ops[i]=o at hoA ho
  rw [hoA] at hi'
  simp only [Option.map_some,Option.getD_some,Bool.and_eq_true,Bool.not_eq_true'] at hi'
  obtain ⟨hni,hedge⟩:=hi'
  rw [getD_tf hlti'] at hni
  have hedge':∀ e∈o.after.toList,bindE e=true→listed.getD e.on false=true:=fun e h1 h2=>by
   have:=(Array.all_eq_true'.1 hedge) e (by simpa using h1)
   rw [show Region.binds .any e=true from h2] at this
   simpa using this
  have hclo:∀ j∈(cloL ops.toList []).getD i [],listed.getD j false=true:=fun j hj=>by
   obtain ⟨e,h1,h2,h3⟩:=hcl i o ho j hj
   rcases h3 with rfl | h3
   ·exact hedge' e h1 h2
   ·exact hi.cl e.on (hedge' e h1 h2) j h3
  obtain ⟨sg,fr,hp,nx,g1,g2,g3,g4,k3⟩:=hi.rel
  have hdN:∀ d,o.dst=some d→d < G.N∧¬ KeepIn m d:=fun d hd=>hwr d (by
   have:∀ (os:List Oper),o∈os→d∈wrO os:=by
    intro os
    induction os with
    | nil=>intro h;cases h
    | cons o' os ih =>
     intro h
     cases h with
     | head=>simp [wrO,hd]
     | tail _ h=>have:=ih h;cases ho':o'.dst<;>simp [wrO,ho',this]
   exact this _ (List.mem_of_getElem? ho))
  have hfuel:(lenF (List.range ops.size) fun j=>!(listed.setIfInBounds i true).getD j true)≤fuel:=by
   have hgt:∀ j,(listed.setIfInBounds i true).getD j true=if i=j then true else listed.getD j true:=fun j=>by
    simp only [Array.getD_eq_getD_getElem?,Array.getElem?_setIfInBounds]
    by_cases h:i=j
    ·subst h
     simp [hlti']
    ·simp [h]
   have:=lenF_add (l:=List.range ops.size) (f:=fun j=>!(listed.setIfInBounds i true).getD j true) (g:=fun j=>!listed.getD j true) (i:=i) List.nodup_range (List.mem_range.2 hlti) (by rw [hgt,if_pos rfl];rfl) (by rw [getD_tf hlti',hni];rfl) (fun x _ hx=>by rw [hgt,if_neg (Ne.symm hx)])
   omega
  -- what a way says of the operation,told by what is there now
  have hNF:∀ A∈alts,(∃ l,piOf hs A=sg++l) →
    (memN i hs=false∧o.guard=none∧∃ p v,stepP E (bare' o) (ev fr) hp=some (p,v)∧recV (RS A) A.ord i=v∧(∀ q,p=some q→q)) ∨
    (memN i hs=false∧∃ j want g p v,o.guard=some (j,want)∧gval ops.toList fr j want=some g∧stepP E (bare' o) (evx o.op fr) hp=some (p,v)∧recV (RS A) A.ord i=.opt g v∧(g=true→∀ q,cjo (reqx o.op fr) p=some q→q)) ∨
    (memN i hs=true∧o.guard=none∧((∃ l,piOf hs A=sg++i :: l)→∃ p v hp' nx',stepH E (bare' o) (ev fr) hp nx=some (p,v,hp',nx')∧recV (RS A) A.ord i=v∧((s.hp,s.nx) :: HP A)[sg.length+1]?=some (hp',nx')∧(∀ q,p=some q→q))):=by
   intro A hA hcon
   obtain ⟨k1,k2⟩:=g4 A hA hcon
   have hSA:=hS A hA
   have hio:=hSA.mem i hltL
   have hq:A.ord[A.ord.idxOf i]?=some i:=by rw [List.getElem?_eq_getElem (List.idxOf_lt_length_iff.2 hio),List.getElem_idxOf]
   obtain ⟨o',r,ho',hRS,hf1,hf2,hf3⟩:=(hfacts A hA).1 (A.ord.idxOf i) i (Nat.zero_le _) hq
   rw [ho] at ho'
   cases ho'
   obtain ⟨o',ho',q2,q3,q4,q5⟩:=hSA.at_ (A.ord.idxOf i) i hq
   rw [ho] at ho'
   cases ho'
   have hord:∀ k,k < ops.toList.length→ordB (cloL ops.toList []) i k=true→listed.getD k false=bef A.ord (A.ord.idxOf i) k:=fun k hkl h=>by
    unfold ordB at h
    simp only [Bool.or_eq_true,beq_iff_eq,memN_iff] at h
    rcases h with (rfl | h) | h
    ·rw [hni];unfold bef;simp
    ·rw [hclo k h,q2 k h]
    ·have hk:A.ord[A.ord.idxOf k]?=some k:=by rw [List.getElem?_eq_getElem (List.idxOf_lt_length_iff.2 (hSA.mem k hkl)),List.getElem_idxOf]
     obtain ⟨_,_,b2,_⟩:=hSA.at_ _ k hk
     have:=b2 i h
     have hlk:listed.getD k false=false:=by
      cases hl:listed.getD k false with
      | false=>rfl
      | true=>rw [hi.cl k hl i h] at hni;cases hni
     rw [hlk]
     unfold bef at this ⊢
     simp at this ⊢
     omega
   have hlook:∀ t∈looks ops.toList o,gt fr t=gt r.s.fr t:=fun t ht=>by
    rw [k1 t,hf1 t]
    unfold Fv
    cases hw:wIdx ops.toList t with
    | none=>rfl
    | some k =>
     obtain ⟨_,h1,_⟩:=wIdx_lt hw
     simp only [lsF,hord k (List.getElem?_eq_some_iff.1 h1).1 (q3 t ht k hw)]
   have hev:∀ x∈o.op.operands.toList,ev fr x=ev r.s.fr x:=fun x hx=>ev_congr fun t ht=>hlook t (List.mem_append_left _ (tmpsOf_mem (ht ▸ hx)))
   have hVi:recV (RS A) A.ord i=r.V:=by unfold recV;rw [hRS]
   have hcs:(lenF hs fun i=>listed.getD i false)=sg.length:=cnt_listed hn g2 g1
   have hPst:memN i hs=false→stepP E (bare' o) (opEv o r.s.fr) r.s.hp=some (r.p,r.v)→stepP E (bare' o) (opEv o r.s.fr) hp=some (r.p,r.v):=by
    intro hm hst
    obtain ⟨l,hl⟩:=hcon
    have hin:inT (cloL ops.toList []) hs (A.ord.filter fun i=>memN i hs) i sg.length=true:=by
     rw [show (A.ord.filter fun i=>memN i hs)=sg++l from hl]
     unfold inT
     rw [List.all_eq_true]
     intro h hh
     rw [Bool.and_eq_true,Bool.or_eq_true,Bool.or_eq_true]
     constructor
     ·cases hm2:memN h ((cloL ops.toList []).getD i []) with
      | false=>exact .inl rfl
      | true =>
       refine .inr (decide_eq_true ?_)
       have:=(g1 h).2 ⟨hh,hclo h (memN_iff.1 hm2)⟩
       rw [List.idxOf_append,if_pos this]
       exact List.idxOf_lt_length_iff.2 this
     ·cases hm2:memN i ((cloL ops.toList []).getD h []) with
      | false=>exact .inl rfl
      | true =>
       refine .inr (decide_eq_true ?_)
       have:h ∉ sg:=fun hm3=>by
        rw [hi.cl h ((g1 h).1 hm3).2 i (memN_iff.1 hm2)] at hni
        cases hni
       rw [List.idxOf_append,if_neg this]
       omega
    rcases q5 hm sg.length (by rw [← hcs];exact List.length_filter_le _ _) hin with hc | hc
    ·rw [hc,hf2] at k2
     cases k2
     exact hst
    ·have hos:(osOf ops.toList A)[A.ord.idxOf i]?=some o:=by
      obtain ⟨o2,hh⟩:∃ o2,(osOf ops.toList A)[A.ord.idxOf i]?=some o2:=by
       cases hx:(osOf ops.toList A)[A.ord.idxOf i]? with
       | some o2=>exact ⟨o2,rfl⟩
       | none =>
        exfalso
        have h1:=DT_len (hd A hA)
        have h2:=List.idxOf_lt_length_iff.2 hio
        rw [List.getElem?_eq_none_iff] at hx
        omega
      have:=hSA.par _ i o2 hq hh
      rw [ho] at this
      cases this
      exact hh
     obtain ⟨q,q1,q2⟩:=ivOk_get (hiv A hA) hos hRS _ hc
     rw [q1] at k2
     cases k2
     exact q2
   rcases hf3 with ⟨hm,hg,hrg,hst,hq'⟩ | ⟨hm,j,want,g,hg,hrg,hgv,hst,hq'⟩ | ⟨hm,hg,hrg,hp',nx',hnext,hst,hq'⟩
   ·have hop:opEv o r.s.fr=ev r.s.fr:=by unfold opEv;rw [hg]
    have hst':=hPst hm (by rw [hop];exact hst)
    rw [hop] at hst'
    rw [← stepP_congr (o:=bare' o) (e:=ev fr) hev] at hst'
    exact .inl ⟨hm,hg,r.p,r.v,hst',by rw [hVi];unfold Rec.V;rw [hrg],hq'⟩
   ·have hop:opEv o r.s.fr=evx o.op r.s.fr:=by unfold opEv;rw [hg]
    have hst':=hPst hm (by rw [hop];exact hst)
    rw [hop] at hst'
    rw [← stepP_congr (o:=bare' o) (e:=evx o.op fr) (fun x hx=>by unfold evx;rw [hev x hx])] at hst'
    have hgv':gval ops.toList fr j want=some g:=by
     rw [← hgv]
     unfold gval
     cases hd:(ops.toList[j]?).bind (·.dst) with
     | none=>rfl
     | some d =>
      simp only
      rw [hlook d (by unfold looks;rw [hg];simp only [hd];exact List.mem_append_right _ List.mem_cons_self)]
    have hrq:reqx o.op fr=reqx o.op r.s.fr:=by unfold reqx;split;rfl;exact opReq_congr hev
    exact .inr (.inl ⟨hm,j,want,g,r.p,r.v,hg,hgv',hst',by rw [hVi];unfold Rec.V;rw [hrg],by rw [hrq];exact hq'⟩)
   ·refine .inr (.inr ⟨hm,hg,fun ⟨l,hl⟩=>?_⟩)
    have hc:cntH hs A.ord (A.ord.idxOf i)=sg.length:=cnt_pi hn hSA.nd hl
    rw [hc] at hf2 hnext
    rw [hf2] at k2
    cases k2
    rw [← stepH_congr (o:=bare' o) (e:=ev fr) hev] at hst
    exact ⟨r.p,r.v,hp',nx',hst,by rw [hVi];unfold Rec.V;rw [hrg],hnext,hq'⟩
  have hgo0:memN i hs=false→∀ X' u v,Ext X X'→WRel X' G→X'.hp=hp→X'.nx=nx→RelV X' v u→(∀ A∈alts,(∃ l,piOf hs A=sg++l)→recV (RS A) A.ord i=v) →
    wpAny P .any ops Q fuel (listed.setIfInBounds i true) (a.put o.dst u) X'.w:=by
   intro hm X' u v e1 w1 h1 h2 hv hVA
   have hih:i ∉ hs:=fun h=>by rw [memN_iff.2 h] at hm;cases hm
   have hrem:remF hs (listed.setIfInBounds i true)=remF hs listed:=List.filter_congr fun x hx=>by
    have:i≠x:=fun e=>hih (e ▸ hx)
    rw [getD_set hlti',if_neg this]
   refine ih _ X' _ hfuel ⟨by simp [hi.sz],fun j hj k hk=>?_,sg,(put1 ⟨fr,hp,nx⟩ o.dst v hp nx).fr,hp,nx,fun x=>?_,g2,by rw [hrem];exact g3,fun A hA hcon=>⟨fun t=>?_,(g4 A hA hcon).2⟩,?_⟩ (e1.ety.trans he)
    (Kept.put (Kept.ext hk k3.wr e1) fun d hd=>(hdN d hd).2) (Ext.trans (fun b hb _=>k3.wr.rl b (hx.R b hb)) hx e1)
   ·rw [getD_set hlti'] at hj ⊢
    split
    ·rfl
    ·split at hj
     ·rename_i e
      subst e
      exact hclo k hk
     ·exact hi.cl j hj k hk
   ·rw [g1 x,getD_set hlti']
    by_cases e:i=x
    ·subst e;exact ⟨fun h=>absurd h.1 hih,fun h=>absurd h.1 hih⟩
    ·rw [if_neg e]
   ·exact Fv_put hlti' ho hu (hVA A hA hcon) (g4 A hA hcon).1 t
   ·have:=k3.put (dst:=o.dst) (v:=v) (u:=u) e1 w1 h1 h2 (fun d hd=>(hdN d hd).1) hv
    exact this.congr (by rw [put1_hp]) (by rw [put1_nx]) fun t=>rfl
  obtain ⟨A,hA,l0,hl0⟩:=hsome (listed:=listed) (X:=X) (a:=a) g3
  show wpOp P ops Q i (wpAny P .any ops Q fuel (listed.setIfInBounds i true)) a X.w
  unfold wpOp
  rw [hoA]
  simp only
  rcases hNF A hA ⟨l0,hl0⟩ with ⟨hm,hg,p,v,hst,hVA,hq⟩ | ⟨hm,j,want,g,p,v,hg,hgv,hst,hVA,hq⟩ | ⟨hm,hg,_⟩
  ·have hw:Region.wanted o (yielded ops a.tmps)=true:=by unfold Region.wanted;rw [hg]
   rw [if_pos hw]
   left
   rw [oper_bare]
   refine stepP_sound (o:=bare' o) hE he k3.wr (e:=ev fr) (fun x hx=>k3.ev x) (by rw [k3.hp];exact hst) hq _ _ fun X' u e1 w1 h1 h2 hv=>?_
   refine hgo0 hm X' u v e1 w1 (h1.trans k3.hp) (h2.trans k3.nx) hv fun B hB hcon=>?_
   rcases hNF B hB hcon with ⟨_,_,p',v',hst',hVB,_⟩ | ⟨_,j,want,g,p,v,hg',_⟩ | ⟨hm',_⟩
   ·rw [hst] at hst';cases hst';exact hVB
   ·rw [hg] at hg';cases hg'
   ·rw [hm] at hm';cases hm'
  ·have hw:=gval_wanted k3 hgv
   rw [Array.toArray_toList] at hw
   have hw':Region.wanted o (yielded ops a.tmps)=g:=by unfold Region.wanted;rw [hg];exact hw
   rw [hw']
   have hall:∀ B∈alts,(∃ l,piOf hs B=sg++l)→recV (RS B) B.ord i=.opt g v:=fun B hB hcon=>by
    rcases hNF B hB hcon with ⟨_,hg',_⟩ | ⟨_,j',want',g',p',v',hg',hgv',hst',hVB,_⟩ | ⟨hm',_⟩
    ·rw [hg] at hg';cases hg'
    ·rw [hg] at hg';cases hg'
     rw [hgv] at hgv';cases hgv'
     rw [hst] at hst';cases hst'
     exact hVB
    ·rw [hm] at hm';cases hm'
   cases g with
   | false =>
    rw [if_neg (by simp)]
    exact hgo0 hm X undef _ (.refl X) k3.wr k3.hp k3.nx (.opt _ _ _ (fun h=>by cases h) (fun _=>rfl)) hall
   | true =>
    rw [if_pos rfl]
    left
    obtain ⟨hq1,hq2⟩:=cjo_all (hq rfl)
    rw [oper_bare]
    refine stepP_sound (o:=bare' o) hE he k3.wr (e:=evx o.op fr) (fun x hx=>evx_rel k3 (op:=o.op) hq1 x hx) (by rw [k3.hp];exact hst) hq2 _ _ fun X' u e1 w1 h1 h2 hv=>?_
    exact hgo0 hm X' u _ e1 w1 (h1.trans k3.hp) (h2.trans k3.nx) (.opt _ _ _ (fun _=>hv) (fun h=>by cases h)) hall
  ·have hih:i∈hs:=memN_iff.1 hm
   have hir:i∈remF hs listed:=List.mem_filter.2 ⟨hih,by rw [hni];rfl⟩
   have hremE:remF hs (listed.setIfInBounds i true)=(remF hs listed).erase i:=by
    rw [List.Nodup.erase_eq_filter (show (remF hs listed).Nodup from hn.filter _),List.filter_filter]
    refine List.filter_congr fun x hx=>?_
    rw [getD_set hlti']
    by_cases e:i=x
    ·subst e;simp
    ·rw [if_neg e]
     have:(x != i)=true:=by simpa using Ne.symm e
     rw [this,Bool.true_and]
   have hlen:(remF hs listed).length=((remF hs listed).erase i).length+1:=by
    rw [List.length_erase_of_mem hir]
    have:=List.length_pos_of_mem hir
    omega
   have hmin:∀ x∈remF hs listed,memN x ((cloL ops.toList []).getD i [])=false:=fun x hx=>by
    cases hb:memN x ((cloL ops.toList []).getD i []) with
    | false=>rfl
    | true =>
     have h1:=hclo x (memN_iff.1 hb)
     have h2:=(List.mem_filter.1 hx).2
     rw [h1] at h2;cases h2
   have g3':∀ l∈linE (cloL ops.toList []) (remF hs (listed.setIfInBounds i true)).length (remF hs (listed.setIfInBounds i true)),∃ A∈alts,piOf hs A=(sg++[i])++l:=by
    intro l hl
    rw [hremE] at hl
    obtain ⟨B,hB,hp⟩:=g3 (i :: l) (by rw [hlen];exact linE_cons hir hmin hl)
    exact ⟨B,hB,by rw [hp,List.append_assoc];rfl⟩
   obtain ⟨B,hB,l1,hl1⟩:=hsome (listed:=listed.setIfInBounds i true) (X:=X) (a:=a) g3'
   have hcon':∀ {C:Alt},(∃ l,piOf hs C=(sg++[i])++l)→(∃ l,piOf hs C=sg++l)∧∃ l,piOf hs C=sg++i :: l:=fun ⟨l,hl⟩=>⟨⟨i :: l,by rw [hl,List.append_assoc];rfl⟩,l,by rw [hl,List.append_assoc];rfl⟩
   have hNH:∀ C∈alts,(∃ l,piOf hs C=(sg++[i])++l)→∃ p v hp' nx',stepH E (bare' o) (ev fr) hp nx=some (p,v,hp',nx')∧recV (RS C) C.ord i=v∧((s.hp,s.nx) :: HP C)[sg.length+1]?=some (hp',nx')∧(∀ q,p=some q→q):=fun C hC hcon=>by
    obtain ⟨c1,c2⟩:=hcon' hcon
    rcases hNF C hC c1 with ⟨hm',_⟩ | ⟨hm',_⟩ | ⟨_,_,hh⟩
    ·rw [hm] at hm';cases hm'
    ·rw [hm] at hm';cases hm'
    ·exact hh c2
   obtain ⟨p,v,hp',nx',hst,hVB,hnext,hq⟩:=hNH B hB ⟨l1,hl1⟩
   have hw:Region.wanted o (yielded ops a.tmps)=true:=by unfold Region.wanted;rw [hg]
   rw [if_pos hw]
   left
   rw [oper_bare]
   refine stepH_sound (o:=bare' o) hE he k3.wr (e:=ev fr) (fun x hx=>k3.ev x) (by rw [k3.hp,k3.nx];exact hst) hq _ _ fun X' u e1 w1 h1 h2 hv=>?_
   refine ih _ X' _ hfuel ⟨by simp [hi.sz],fun j hj k hk=>?_,sg++[i],(put1 ⟨fr,hp,nx⟩ o.dst v hp' nx').fr,hp',nx',fun x=>?_,?_,g3',fun C hC hcon=>?_,?_⟩ (e1.ety.trans he)
    (Kept.put (Kept.ext hk k3.wr e1) fun d hd=>(hdN d hd).2) (Ext.trans (fun b hb _=>k3.wr.rl b (hx.R b hb)) hx e1)
   ·rw [getD_set hlti'] at hj ⊢
    split
    ·rfl
    ·split at hj
     ·rename_i e
      subst e
      exact hclo k hk
     ·exact hi.cl j hj k hk
   ·rw [List.mem_append,List.mem_singleton,g1 x,getD_set hlti']
    by_cases e:i=x
    ·subst e;exact ⟨fun _=>⟨hih,if_pos rfl⟩,fun _=>.inr rfl⟩
    ·rw [if_neg e]
     exact ⟨fun h=>h.elim id fun h=>absurd h.symm e,.inl⟩
   ·rw [List.nodup_append]
    refine ⟨g2,by simp,fun x hx y hy=>?_⟩
    rw [List.mem_singleton] at hy
    subst hy
    intro e
    subst e
    rw [((g1 x).1 hx).2] at hni
    cases hni
   ·obtain ⟨c1,c2⟩:=hcon' hcon
    obtain ⟨p2,v2,hp2,nx2,hst2,hVC,hnext2,_⟩:=hNH C hC hcon
    rw [hst] at hst2
    cases hst2
    refine ⟨fun t=>?_,by rw [List.length_append];exact hnext2⟩
    rw [put1_fr]
    exact Fv_put hlti' ho hu hVC (g4 C hC c1).1 t
   ·have:=k3.put (dst:=o.dst) (v:=v) (u:=u) e1 w1 h1 h2 (fun d hd=>(hdN d hd).1) hv
    exact this.congr (by rw [put1_hp]) (by rw [put1_nx]) fun t=>rfl
theorem wp_draw (hE:EnvOk P E) {id:Nat} (hok:drawOk ops.toList hs alts=true) {s:St} (hd:∀ A∈alts,DT E ops.toList hs A.ord (osOf ops.toList A) s (RS A) (HP A) (S' A)) (hiv:∀ A∈alts,ivOk E ((s.hp,s.nx) :: HP A) A.iv (osOf ops.toList A) (RS A))
  {m:List MIt} (hwr:∀ d∈wrO ops.toList,d < G.N∧¬ KeepIn m d) {Q:Exit→Act→World→Prop} {XS:Ctx} (hend:∀ A∈alts,∀ X a,SRel X G (S' A) a→X.ety=E.ety→Kept m X a→Ext XS X→Q .normal a X.w)
  {X:Ctx} {a:Act} (hr:SRel X G s a) (he:X.ety=E.ety) (hk:Kept m X a) (hx:Ext XS X):(Code.region id ops true).wp P Q a X.w:=by
 refine wp_region_any hE.mix ?_
 obtain ⟨hr',hx'⟩:=drawn_rel hr (X.w.drawn+1)
 refine draw_any (P:=P) hE hok hd hiv hwr hend ops.size (Array.replicate ops.size false) { X with w:={ X.w with drawn:=X.w.drawn+1 } } a ?_ ?_ he (Kept.ext hk hr.wr hx') (Ext.trans (fun b hb _=>hr.wr.rl b (hx.R b hb)) hx hx')
 ·refine Nat.le_trans (List.length_filter_le _ _) ?_
  simp
 ·have hF:∀ i,(Array.replicate ops.size false).getD i false=false:=fun i=>by
   simp only [Array.getD_eq_getD_getElem?,Array.getElem?_replicate]
   split<;>rfl
  have hrem:remF hs (Array.replicate ops.size false)=hs:=List.filter_eq_self.2 fun x _=>by rw [hF];rfl
  refine ⟨by simp,fun i hi=>?_,[],s.fr,s.hp,s.nx,fun x=>?_,List.nodup_nil,fun l hl=>?_,fun A hA _=>⟨fun t=>?_,rfl⟩,hr'.congr rfl rfl fun _=>rfl⟩
  ·rw [hF] at hi
   cases hi
  ·rw [hF];simp
  ·rw [hrem] at hl
   simp only [drawOk,Bool.and_eq_true,List.all_eq_true,List.any_eq_true,beq_iff_eq] at hok
   obtain ⟨A,h1,h2⟩:=hok.2 l hl
   exact ⟨A,h1,h2⟩
  ·unfold Fv
   cases wIdx ops.toList t with
   | none=>rfl
   | some k=>simp only [lsF,hF];rfl
end main
end
end Go.Ab
namespace Go.Ab
open Go
variable [GI]
section
variable {P:Program} {E:Env} {X Y Z:Ctx} {G:Beg} {o:Oper} {a:Act}
theorem SRel.ghost {s:St} {hp:Hp} {nx:Nat} {X':Ctx} (h:SRel X G s a) (e:Ext X X') (hw:WRel X' G) (h1:X'.hp=hp) (h2:X'.nx=nx):SRel X' G ⟨s.fr,hp,nx⟩ a :=
 ⟨h1,h2,h.sz,h.df,fun n=>(h.fr n).ext e,hw⟩
theorem opn_sound {s:St} (h:SRel X G s a) {v:Value} {id off:Nat} {i:Int} (hx:RelV X (.elp id i off) v):∃ X',SRel X' G (opnH id i s) a∧Ext X X'∧X'.w=X.w:=by
 unfold opnH
 split
 rotate_left
 ·exact ⟨X,h,.refl X,rfl⟩
 rename_i d hb
 rw [← h.hp] at hb
 obtain ⟨Y,h1,h2,h3,h4,h5⟩:=opn_core h.wr hb hx
 rw [h.hp,h.nx] at h4 h5
 exact ⟨Y,h.ghost h2 h1 h4 h5,h2,h3⟩
theorem cls_sound {s:St} (h:SRel X G s a) (id:Nat):∃ X',SRel X' G ⟨s.fr,clsH id s.hp,s.nx⟩ a∧Ext X X'∧X'.w=X.w:=by
 have same:∃ X',SRel X' G ⟨s.fr,s.hp,s.nx⟩ a∧Ext X X'∧X'.w=X.w:=⟨X,h,.refl X,rfl⟩
 unfold clsH
 split
 rotate_left
 ·exact same
 rename_i d i cs hb
 generalize hT:takeC cs (hput id .dead s.hp)=T
 obtain ⟨vs,hp1⟩:=T
 simp only
 cases hm:elemMk d.k vs with
 | none=>exact same
 | some r =>
 obtain ⟨z,q⟩:=r
 simp only
 rw [← h.hp] at hb
 have hl:live X id:=by unfold live;rw [hb];simp
 have hid:=live_lt h.wr hl
 obtain ⟨_,hkk,i0,ilt,icl,us,fs,g1,g2,g3,g4,g5,g6,g7⟩:=hol_val h.wr (RelV.row id (X.ob id).v hid rfl) hb
 have hfree:=kill_free h.wr hl
 have hesz0:0 < d.k.esz:=by cases d.k<;>decide
 have husl:us.length=d.l.length * d.k.esz:=g1.1
 have hrow:(i.toNat+1) * d.k.esz≤d.l.length * d.k.esz:=Nat.mul_le_mul_right _ ilt
 have hrow':(i.toNat+1) * d.k.esz=i.toNat * d.k.esz+d.k.esz:=by rw [Nat.add_mul,Nat.one_mul]
 let ui:=(us.drop (i.toNat * d.k.esz)).take d.k.esz
 have huil:ui.length=d.k.esz:=by simp only [ui,List.length_take,List.length_drop];omega
 have hui:∀ j,j < d.k.esz→ui[j]?=us[i.toNat * d.k.esz+j]?:=fun j hj=>by simp only [ui,List.getElem?_take,List.getElem?_drop];rw [if_pos hj]
 obtain ⟨fs2,k1,k2,k3,k4,k5⟩:=takeC_rel (kill_rel h.wr id) (cs:=cs) (us:=ui) (by rw [icl,huil]) (fun j c u hj hu=>by
  have hjl:j < d.k.esz:=by rw [← icl];exact (List.getElem?_eq_some_iff.1 hj).1
  rw [hui j hjl] at hu
  exact (g3 j c u hj hu).1.ext (kill_same id).ext)
 rw [show (killC X id).hp=hput id .dead s.hp by rw [← h.hp],hT] at k1 k2 k3 k4 k5
 simp only at k1 k2 k3 k4 k5
 obtain ⟨m1,m2⟩:=elemMk_cells (X:={ killC X id with hp:=hp1 }) hm
 generalize hX2:({ killC X id with hp:=hp1 }:Ctx)=X2 at *
 have xw:X2.w=X.w:=by rw [← hX2]
 have xR:X2.R=X.R:=by rw [← hX2]
 have xh:X2.hp=hp1:=by rw [← hX2]
 have xn:X2.nx=X.nx:=by rw [← hX2]
 have xe:X2.ety=X.ety:=by rw [← hX2]
 have xo:X2.ob=X.ob:=by rw [← hX2]
 rw [xe] at m1 m2
 have hvl:vs.length=d.k.esz:=by rw [k4.len,huil]
 have hfr2:Free X2 G (X.ob id).F:=hfree.foot k3 k2.w k2.R fun _ _ h=>h
 have hdj:∀ j k b,j < us.length→k < d.k.esz→fs j b→fs2 k b→False:=fun j k b hj hk e1 e2=>by
  obtain ⟨id',l1,l2⟩:=k5 k b (by omega) e2
  exact hfree.nl id' b l1 l2 ((g7 b).2 (.inr ⟨j,hj,e1⟩))
 let hs:Nat→Nat→Prop:=fun k b=>(k / d.k.esz=i.toNat∧fs2 (k % d.k.esz) b)∨(k / d.k.esz≠i.toNat∧fs k b)
 have hcells:CellsJ X2 G q ((d.l.set i.toNat z).map (elemCD X2.ety d.k)).flatten us hs:=by
  rw [xe]
  have hfl:((d.l.set i.toNat z).map (elemCD X.ety d.k)).flatten.length=d.l.length * d.k.esz:=by
   rw [flatten_len (n:=d.k.esz) (fun row hr=>by obtain ⟨x,_,rfl⟩:=List.mem_map.1 hr;exact elemCD_len X.ety d.k x),List.length_map,List.length_set]
  refine ⟨by rw [hfl,husl],fun j cd u hj hu=>?_,fun j k b hj hk e1 e2=>?_,fun j hj=>?_⟩
  ·have hjl:j < d.l.length * d.k.esz:=by rw [← hfl];exact (List.getElem?_eq_some_iff.1 hj).1
   obtain ⟨x0,hx0,hx1,hmod⟩:=flat_at (X:=X) (xs:=d.l.set i.toNat z) (by rw [List.length_set];exact hjl)
   rw [hx1] at hj
   have hdm:=Nat.div_add_mod j d.k.esz
   by_cases hr:j / d.k.esz=i.toNat
   ·rw [hr,List.getElem?_set_self ilt] at hx0
    cases hx0
    have hje:j=i.toNat * d.k.esz+j % d.k.esz:=by rw [← hr,Nat.mul_comm];omega
    have hlv:j % d.k.esz < vs.length:=by omega
    have huj:ui[j % d.k.esz]?=some u:=by rw [hui _ hmod,← hje];exact hu
    have:=m2 (j % d.k.esz) vs[j % d.k.esz] cd u (fs2 (j % d.k.esz)) hj (List.getElem?_eq_getElem hlv) (k4.rel _ _ u (List.getElem?_eq_getElem hlv) huj)
    have hh:hs j=fs2 (j % d.k.esz):=funext fun b=>propext ⟨fun h=>h.elim (fun h=>h.2) (fun h=>absurd hr h.1),fun h=>.inl ⟨hr,h⟩⟩
    rw [hh]
    exact this
   ·rw [List.getElem?_set_ne (fun h=>hr h.symm)] at hx0
    obtain ⟨x1,hx1',hx2,_⟩:=flat_at (X:=X) (xs:=d.l) hjl
    rw [hx0] at hx1'
    cases hx1'
    rw [← hx2] at hj
    have ho:=g2 j cd u hr hj hu
    have hh:hs j=fs j:=funext fun b=>propext ⟨fun h=>h.elim (fun h=>absurd h.1 hr) (fun h=>h.2),fun h=>.inr ⟨hr,h⟩⟩
    rw [hh]
    have hrp:Rep X.w (fun b=>X.R b∨fs j b) cd u:=ho.rep fun _ h=>.inr h
    obtain ⟨x,hx'⟩:=flat_mem hj
    exact ⟨plain_cell hx' hrp,fun _=>by rw [xw];exact ho,by rw [xw,xR];exact hrp⟩
  ·rcases e1 with ⟨a1,a2⟩ | ⟨a1,a2⟩<;>rcases e2 with ⟨b1,b2⟩ | ⟨b1,b2⟩
   ·have:=k4.dis _ _ b (by rw [hvl];exact Nat.mod_lt _ hesz0) (by rw [hvl];exact Nat.mod_lt _ hesz0) a2 b2
    have h1:=Nat.div_add_mod j d.k.esz
    have h2:=Nat.div_add_mod k d.k.esz
    rw [a1] at h1
    rw [b1] at h2
    omega
   ·exact (hdj k _ b hk (Nat.mod_lt _ hesz0) b2 a2).elim
   ·exact (hdj j _ b hj (Nat.mod_lt _ hesz0) a2 b2).elim
   ·exact g5 j k b hj hk a2 b2
  ·by_cases hr:j / d.k.esz=i.toNat
   ·exact (k4.free (j % d.k.esz) (by rw [hvl];exact Nat.mod_lt _ hesz0)).sub fun b hb=>hb.elim (fun h=>h.2) (fun h=>absurd hr h.1)
   ·exact hfr2.sub fun b hb=>hb.elim (fun h=>absurd h.1 hr) (fun h=>(g7 b).2 (.inr ⟨j,hj,h.2⟩))
 have ho':ownR X2.w (X2.ety d.k) d.k.esz (X.ob id).v (d.l.set i.toNat z).length us:=by
  rw [List.length_set,xw,xe]
  exact g1
 have mk:=makerow (k:=d.k) (xs:=d.l.set i.toNat z) k1 hcells (B:=fun b=>(X.ob id).v.ownBlock=some b) (hfr2.sub fun b hb=>(g7 b).2 (.inl hb)) (Keep.refl _ _) (fun j b hj hb hh=>by
  rcases hb with ⟨c1,c2⟩ | ⟨c1,c2⟩
  ·obtain ⟨id',l1,l2⟩:=k5 _ b (by rw [hvl];exact Nat.mod_lt _ hesz0) c2
   exact hfree.nl id' b l1 l2 ((g7 b).2 (.inl hh))
  ·exact g6 j b hj c2 hh) ho' (fun b hb=>.inl hb) (id:=id) (nx:=X.nx) (by omega) hid (fun _=>by rw [xo];exact ⟨rfl,hkk⟩)
 obtain ⟨X3,n1,n2,n3,n4,n5,_⟩:=mk
 have e2:Ext X X2:=Ext.trans (X:=X) (Y:=killC X id) (Z:=X2) (fun _ _ h=>h) (kill_same id).ext k2.ext
 have e3:Ext X X3:=Ext.trans (X:=X) (Y:=X2) (Z:=X3) (fun b hb _=>k1.rl b (by rw [xR];exact hb)) e2 n1
 exact ⟨X3,h.ghost e3 n2 (by rw [n3,xh]) (by rw [n4];exact h.nx),e3,by rw [n5,xw]⟩
theorem zcl_sound {s:St} (h:SRel X G s a) (id:Nat):∃ X',SRel X' G ⟨s.fr,zclH id s.hp,s.nx⟩ a∧Ext X X'∧X'.w=X.w:=by
 have same:∃ X',SRel X' G ⟨s.fr,s.hp,s.nx⟩ a∧Ext X X'∧X'.w=X.w:=⟨X,h,.refl X,rfl⟩
 unfold zclH
 split
 rotate_left
 ·exact same
 rename_i l p id2 cs hb
 generalize hT:takeC cs (hput id .dead s.hp)=T
 obtain ⟨vs,hp1⟩:=T
 simp only
 cases hm:elemMk .node vs with
 | none=>exact same
 | some r =>
 obtain ⟨z,q⟩:=r
 simp only
 cases q with
 | false=>exact same
 | true =>
 rw [cond_true]
 rw [← h.hp] at hb
 have hl:live X id:=by unfold live;rw [hb];simp
 have hid:=live_lt h.wr hl
 have hoo:=h.wr.ob id
 unfold ObjOk at hoo
 rw [hb] at hoo
 obtain ⟨hkk,_,⟨hcl,_⟩,hFl,us,hul,hrel,hn,hs⟩:=hoo
 have hfree:=kill_free h.wr hl
 obtain ⟨fs2,k1,k2,k3,k4,k5⟩:=takeC_rel (kill_rel h.wr id) (cs:=cs) (us:=us) (by rw [hcl,hul]) (fun j c u hj hu=>(hrel j c u hj hu).1.ext (kill_same id).ext)
 rw [show (killC X id).hp=hput id .dead s.hp by rw [← h.hp],hT] at k1 k2 k3 k4 k5
 simp only at k1 k2 k3 k4 k5
 obtain ⟨m1,m2⟩:=elemMk_cells (X:={ killC X id with hp:=hp1 }) hm
 generalize hX2:({ killC X id with hp:=hp1 }:Ctx)=X2 at *
 have xw:X2.w=X.w:=by rw [← hX2]
 have xR:X2.R=X.R:=by rw [← hX2]
 have xh:X2.hp=hp1:=by rw [← hX2]
 have xn:X2.nx=X.nx:=by rw [← hX2]
 have xe:X2.ety=X.ety:=by rw [← hX2]
 have xo:X2.ob=X.ob:=by rw [← hX2]
 have hvl:vs.length=6:=by rw [k4.len,hul]
 have hfr2:Free X2 G (X.ob id).F:=hfree.foot k3 k2.w k2.R fun _ _ h=>h
 have hdj:∀ j c,j < 6→fs2 j c→¬ (X.ob id).F c:=fun j c hj e1 e2=>by
  obtain ⟨id',l1,l2⟩:=k5 j c (by omega) e1
  exact hfree.nl id' c l1 l2 e2
 have key:∃ F2:Nat→Prop,Free X2 G F2∧Own X.w (dataCD X.ety ⟨.node,putP l p z⟩) (X.ob id).v F2:=by
  cases hp:(atP l p).isNone with
  | true =>
   have:=(hn hp).2
   have e:putP l p z=l:=putP_none (by simpa using hp)
   rw [e]
   exact ⟨_,hfr2,this⟩
  | false =>
   obtain ⟨g,b,arr,t,fz,a1,a2,a3,a4,a5,a6,a7⟩:=hs hp
   refine ⟨_,?_,a7 X.w arr z us fs2 a3 rfl (fun _ _=>rfl) hul a6 (fun _ _ _=>rfl) (fun j cd u hj hu=>?_) (fun j k c hj hk=>k4.dis j k c (by omega) (by omega)) hdj⟩
   ·exact ⟨fun c hc=>hc.elim (hfr2.nr c) fun ⟨j,hj,hc⟩=>(k4.free j (by omega)).nr c hc,fun i c h1 h2 hc=>hc.elim (hfr2.nl i c h1 h2) fun ⟨j,hj,hc⟩=>(k4.free j (by omega)).nl i c h1 h2 hc,fun c hc=>hc.elim (hfr2.lt c) fun ⟨j,hj,hc⟩=>(k4.free j (by omega)).lt c hc,fun c hc=>hc.elim (hfr2.ok c) fun ⟨j,hj,hc⟩=>(k4.free j (by omega)).ok c hc⟩
   ·have hj6:j < 6:=by have:=(List.getElem?_eq_some_iff.1 hj).1;rw [elemCD_len] at this;exact this
    have:=m2 j vs[j] cd u (fs2 j) (by rw [xe];exact hj) (List.getElem?_eq_getElem (by omega)) (k4.rel j _ u (List.getElem?_eq_getElem (by omega)) hu)
    have:=this.2.1 rfl
    rw [xw] at this
    exact this
 obtain ⟨F2,f1,f2⟩:=key
 have hold:id < X2.nx→(X.ob id).v=(X2.ob id).v∧(⟨.node,putP l p z⟩:Data).k=(X2.ob id).k:=fun _=>by rw [xo];exact ⟨rfl,hkk⟩
 have w3:=setRow_rel (q:=true) (d:=⟨.node,putP l p z⟩) (id:=id) (nx:=X2.nx) (v:=(X.ob id).v) (F:=F2) k1 (Nat.le_refl _) (by omega) hold f1 (by
  show Own X2.w (dataCD X2.ety ⟨.node,putP l p z⟩) (X.ob id).v F2
  rw [xw,xe];exact f2)
 have s3:=set_same (X:=X2) (id:=id) (ob:=.row true ⟨.node,putP l p z⟩) (i:=⟨(X.ob id).v,F2,.node⟩) (nx:=X2.nx) (Nat.le_refl _) hold
 have e2:Ext X X2:=Ext.trans (X:=X) (Y:=killC X id) (Z:=X2) (fun _ _ h=>h) (kill_same id).ext k2.ext
 have e3:Ext X (setC X2 id (.row true ⟨.node,putP l p z⟩) ⟨(X.ob id).v,F2,.node⟩ X2.nx):=Ext.trans (X:=X) (Y:=X2) (fun b hb _=>k1.rl b (e2.R b hb)) e2 s3.ext
 exact ⟨_,h.ghost e3 w3 (by show hput id _ X2.hp=_;rw [xh]) (by show X2.nx=_;rw [xn];exact h.nx),e3,xw⟩
theorem frz_sound {s:St} (h:SRel X G s a) (t:Nat):∃ X',SRel X' G (frzS t s) a∧Ext X X'∧X'.w=X.w:=by
 unfold frzS
 split
 rotate_left
 ·exact ⟨X,h,.refl X,rfl⟩
 rename_i id ht
 split
 rotate_left
 ·exact ⟨X,h,.refl X,rfl⟩
 rename_i q d hb
 rw [← h.hp] at hb
 have hv:=h.fr t
 rw [ht] at hv
 obtain ⟨_,_,hrep⟩:=row_rep h.wr hv hb
 have hl:live X id:=by unfold live;rw [hb];simp
 have hfree:=kill_free h.wr hl
 have hR:∀ b,(killC X id).R b→(fun b=>X.R b∨(X.ob id).F b) b:=fun b hb=>.inl hb
 have e1:=world_ext (X:=killC X id) (R':=fun b=>X.R b∨(X.ob id).F b) hfree (Keep.refl _ _) hR
 have w1:=world_rel (kill_rel h.wr id) (R':=fun b=>X.R b∨(X.ob id).F b) hfree (Keep.refl _ _) hR (fun b hb=>hb.elim .inl fun hb=>.inr (.inr hb)) (fun b hb=>hb.elim (h.wr.rl b) fun hb=>live_lt_heap h.wr hl hb)
 have eX:=Ext.trans (X:=X) (Y:=killC X id) (fun _ _ h=>h) (kill_same id).ext e1
 refine ⟨{ killC X id with w:=X.w,R:=fun b=>X.R b∨(X.ob id).F b },⟨by show hput id .dead X.hp=_;rw [h.hp],h.nx,h.sz,h.df,fun n=>?_,w1⟩,eX,rfl⟩
 show RelV _ (if t=n then .dat d else gt s.fr n) _
 by_cases hn:t=n
 ·rw [if_pos hn]
  subst hn
  exact .dat d _ hrep.2
 ·rw [if_neg hn]
  exact (h.fr n).ext eX
theorem nil_sound {s:St} (h:SRel X G s a) (k:K) (t:Nat):∃ X',SRel X' G (nilO k t s) a∧Ext X X'∧X'.w=X.w:=by
 unfold nilO
 split
 rotate_left
 ·exact ⟨X,h,.refl X,rfl⟩
 rename_i ht
 have hv:=h.fr t
 rw [ht] at hv
 have hu:a.tmps.getD t undef=.slice none 0 0:=by
  generalize a.tmps.getD t undef=u at hv
  cases hv with | nilS=>rfl
 have hF:Free X G fun _=>False:=⟨fun _ h=>h.elim,fun _ _ _ _ h=>h,fun _ h=>h.elim,fun _ h=>h.elim⟩
 have ho:OwnO X.w X.R true (dataCD X.ety ⟨k,[]⟩) (.slice none 0 0) fun _=>False:=by
  show Own X.w (.sl (X.ety k) k.esz []) (.slice none 0 0) fun _=>False
  refine .sl _ _ _ _ [] (fun _ _=>False) _ ⟨by simp,.inl ⟨rfl,rfl⟩⟩ (fun _ h=>(by cases h)) (fun _ _ _ h=>by simp at h) (fun _ _ h=>by simp at h) (fun _ _ _ h=>by simp at h) fun b=>?_
  constructor
  ·exact fun h=>h.elim
  ·rintro (h | ⟨_,h,_⟩)
   ·cases h
   ·simp at h
 have hnx:s.nx=X.nx:=h.nx.symm
 rw [hnx]
 have w1:=setRow_rel (d:=⟨k,[]⟩) (q:=true) h.wr (Nat.le_succ X.nx) (Nat.lt_succ_self _) (fun h=>absurd h (Nat.lt_irrefl _)) hF ho
 have s1:=set_same (X:=X) (id:=X.nx) (ob:=.row true ⟨k,[]⟩) (i:=⟨.slice none 0 0,fun _=>False,k⟩) (nx:=X.nx+1) (Nat.le_succ _) (fun h=>absurd h (Nat.lt_irrefl _))
 refine ⟨setC X X.nx (.row true ⟨k,[]⟩) ⟨.slice none 0 0,fun _=>False,k⟩ (X.nx+1),⟨by show hput X.nx _ X.hp=_;rw [h.hp],rfl,h.sz,h.df,fun n=>?_,w1⟩,s1.ext,s1.w⟩
 show RelV _ (if t=n then .row X.nx else gt s.fr n) _
 by_cases hn:t=n
 ·rw [if_pos hn,← hn,hu]
  exact .row _ _ (Nat.lt_succ_self _) (by simp)
 ·rw [if_neg hn]
  exact (h.fr n).ext s1.ext
theorem rep_nilS {w:World} {R:Nat→Prop} {ety:K→TypeId} (k:K):Rep w R (dataCD ety ⟨k,[]⟩) (.slice none 0 0):=by
 show Rep w R (.sl (ety k) k.esz []) (.slice none 0 0)
 exact .sl _ _ [] none 0 (fun _=>undef) (Nat.le_refl _) (fun _ h=>by cases h) (fun _ _ h=>by simp at h) (fun _ _ h=>by simp at h)
theorem nid_sound {s:St} (h:SRel X G s a) (k:K) (t:Nat):∃ X',SRel X' G (nidO k t s) a∧Ext X X'∧X'.w=X.w:=by
 unfold nidO
 split
 rotate_left
 ·exact ⟨X,h,.refl X,rfl⟩
 rename_i ht
 refine ⟨X,⟨h.hp,h.nx,h.sz,h.df,fun n=>?_,h.wr⟩,.refl X,rfl⟩
 show RelV X (if t=n then .dat ⟨k,[]⟩ else gt s.fr n) _
 by_cases hn:t=n
 ·rw [if_pos hn]
  subst hn
  have hv:=h.fr t
  rw [ht] at hv
  generalize a.tmps.getD t undef=u at hv
  cases hv
  exact .dat _ _ (rep_nilS k)
 ·rw [if_neg hn]
  exact h.fr n
theorem nthA_get:∀ {cs:List AV} {f:Nat} {v:AV},nthA cs f=v→v≠.any→cs[f]?=some v
 | [],f,v,h,hv=>absurd h.symm hv
 | c :: r,f,v,h,hv=>by
  unfold nthA at h
  split at h
  ·rename_i e;subst e;simp [h]
  ·rename_i e
   have:=nthA_get h hv
   cases f with
   | zero=>exact absurd rfl e
   | succ f=>simpa using this
theorem setA_len:∀ (cs:List AV) (f:Nat) (v:AV),(setA cs f v).length=cs.length
 | [],_,_=>rfl
 | c :: r,f,v=>by
  unfold setA
  split
  ·rfl
  ·simp [setA_len r]
theorem setA_get:∀ {cs:List AV} {f j:Nat} {v c:AV},(setA cs f v)[j]?=some c→(j=f∧c=v)∨cs[j]?=some c
 | [],f,j,v,c,h=>by simp [setA] at h
 | d :: r,f,j,v,c,h=>by
  unfold setA at h
  split at h
  ·rename_i e
   subst e
   cases j with
   | zero=>simp at h;exact .inl ⟨rfl,h.symm⟩
   | succ j=>exact .inr (by simpa using h)
  ·rename_i e
   cases j with
   | zero=>exact .inr (by simpa using h)
   | succ j =>
    rcases setA_get (cs:=r) (f:=f - 1) (j:=j) (by simpa using h) with ⟨h1,h2⟩ | h1
    ·exact .inl ⟨by omega,h2⟩
    ·exact .inr (by simpa using h1)
theorem nib_sound {s:St} (h:SRel X G s a) (k:K) (t f:Nat):∃ X',SRel X' G (nibO k t f s) a∧Ext X X'∧X'.w=X.w:=by
 have same:∃ X',SRel X' G s a∧Ext X X'∧X'.w=X.w:=⟨X,h,.refl X,rfl⟩
 unfold nibO
 split
 rotate_left
 ·exact same
 rename_i id ht
 split
 rotate_left
 ·exact same
 rename_i ty cs hb
 split
 rotate_left
 ·exact same
 rename_i hn
 have hcf:=nthA_get hn (by simp)
 rw [← h.hp] at hb
 have hl:live X id:=by unfold live;rw [hb];simp
 have hid:=live_lt h.wr hl
 have hob:=h.wr.ob id
 unfold ObjOk at hob
 rw [hb] at hob
 obtain ⟨b,t',arr,h1,h2,h3,h4,h5,h6⟩:=hob
 have hfree:Free (killC X id) G fun n=>n=b:=(kill_free h.wr hl).sub fun n e=>(h5 n).2 e
 have w1:=kill_rel h.wr id
 have s1:=kill_same (X:=X) id
 have hF:Free (killC X id) G fun _=>False:=⟨fun _ h=>h.elim,fun _ _ _ _ h=>h,fun _ h=>h.elim,fun _ h=>h.elim⟩
 have ho:OwnO X.w X.R true (dataCD X.ety ⟨k,[]⟩) (.slice none 0 0) fun _=>False:=by
  show Own X.w (.sl (X.ety k) k.esz []) (.slice none 0 0) fun _=>False
  refine .sl _ _ _ _ [] (fun _ _=>False) _ ⟨by simp,.inl ⟨rfl,rfl⟩⟩ (fun _ h=>(by cases h)) (fun _ _ _ h=>by simp at h) (fun _ _ h=>by simp at h) (fun _ _ _ h=>by simp at h) fun b=>?_
  constructor
  ·exact fun h=>h.elim
  ·rintro (h | ⟨_,h,_⟩)
   ·cases h
   ·simp at h
 have hnx:s.nx=X.nx:=h.nx.symm
 rw [hnx]
 have hold0:X.nx < (killC X id).nx→(.slice none 0 0:Value)=((killC X id).ob X.nx).v∧k=((killC X id).ob X.nx).k:=fun h=>absurd h (Nat.lt_irrefl _)
 have w2:=setRow_rel (X:=killC X id) (d:=⟨k,[]⟩) (q:=true) (id:=X.nx) (nx:=X.nx+1) w1 (Nat.le_succ _) (Nat.lt_succ_self _) hold0 hF ho
 have s2:=set_same (X:=killC X id) (id:=X.nx) (ob:=.row true ⟨k,[]⟩) (i:=⟨.slice none 0 0,fun _=>False,k⟩) (nx:=X.nx+1) (Nat.le_succ _) hold0
 have f2:Foot (killC X id) (setC (killC X id) X.nx (.row true ⟨k,[]⟩) ⟨.slice none 0 0,fun _=>False,k⟩ (X.nx+1)) (fun _=>False):=set_foot
 generalize hX2:setC (killC X id) X.nx (.row true ⟨k,[]⟩) ⟨.slice none 0 0,fun _=>False,k⟩ (X.nx+1)=X2 at w2 s2 f2
 have x2n:X2.nx=X.nx+1:=by rw [← hX2]
 have x2h:X2.hp=hput X.nx (.row true ⟨k,[]⟩) (hput id .dead X.hp):=by rw [← hX2]
 have x2o:(X2.ob X.nx).v=.slice none 0 0:=by rw [← hX2];simp
 have e2:Ext X X2:=Ext.trans (X:=X) (Y:=killC X id) (Z:=X2) (fun b hb _=>h.wr.rl b hb) s1.ext s2.ext
 have hold:id < X2.nx→(.pointer (some ⟨b,0,none⟩):Value)=(X2.ob id).v∧(X2.ob id).k=(X2.ob id).k:=fun _=>⟨by rw [(e2.ob id hid).1,h1],rfl⟩
 have hr2:∀ (j:Nat) (c:AV) (u:Value),(setA cs f (.row X.nx))[j]?=some c→arr[j]?=some u→RelV X2 c u:=fun j c u hj hu=>by
  rcases setA_get hj with ⟨rfl,rfl⟩ | hj
  ·have hv:=h4 j .nilS u hcf hu
   have:u=.slice none 0 0:=by cases hv with | nilS=>rfl
   rw [this]
   exact .row _ _ (by rw [x2n];exact Nat.lt_succ_self _) x2o.symm
  ·exact (h4 j c u hj hu).ext e2
 have x2w:X2.w=X.w:=s2.w.trans s1.w
 have hfree2:Free X2 G fun n=>n=b:=hfree.foot f2 s2.w s2.R fun _ _ h=>h
 have w3:=setBox_rel (t:=ty) (t':=t') (cs:=setA cs f (.row X.nx)) (arr:=arr) (k:=(X2.ob id).k) w2 (Nat.le_refl _) (by rw [x2n];omega) hold hfree2 (by rw [x2w];exact h2) (by rw [setA_len];exact h3) hr2 (fun j i T hj=>by
  rcases setA_get hj with ⟨_,e⟩ | hj
  ·cases e
  ·exact h6 j i T hj)
 have s3:=set_same (X:=X2) (id:=id) (ob:=.box ty (setA cs f (.row X.nx))) (i:=⟨.pointer (some ⟨b,0,none⟩),fun n=>n=b,(X2.ob id).k⟩) (Nat.le_refl _) hold
 have e3:Ext X (setC X2 id (.box ty (setA cs f (.row X.nx))) ⟨.pointer (some ⟨b,0,none⟩),fun n=>n=b,(X2.ob id).k⟩ X2.nx):=Ext.trans (X:=X) (Y:=X2) (fun b hb _=>w2.rl b (e2.R b hb)) e2 s3.ext
 refine ⟨_,h.ghost e3 w3 (by show hput id _ X2.hp=_;rw [x2h,h.hp]) x2n,e3,x2w⟩
theorem nbd_sound {s:St} (h:SRel X G s a) (k:K) (t f:Nat):∃ X',SRel X' G (nbdO k t f s) a∧Ext X X'∧X'.w=X.w:=by
 have same:∃ X',SRel X' G s a∧Ext X X'∧X'.w=X.w:=⟨X,h,.refl X,rfl⟩
 unfold nbdO
 split
 rotate_left
 ·exact same
 rename_i id ht
 split
 rotate_left
 ·exact same
 rename_i ty cs hb
 split
 rotate_left
 ·exact same
 rename_i hn
 have hcf:=nthA_get hn (by simp)
 rw [← h.hp] at hb
 have hl:live X id:=by unfold live;rw [hb];simp
 have hid:=live_lt h.wr hl
 have hob:=h.wr.ob id
 unfold ObjOk at hob
 rw [hb] at hob
 obtain ⟨b,t',arr,h1,h2,h3,h4,h5,h6⟩:=hob
 have hfree:Free (killC X id) G fun n=>n=b:=(kill_free h.wr hl).sub fun n e=>(h5 n).2 e
 have w1:=kill_rel h.wr id
 have s1:=kill_same (X:=X) id
 have hold:id < (killC X id).nx→(.pointer (some ⟨b,0,none⟩):Value)=((killC X id).ob id).v∧((killC X id).ob id).k=((killC X id).ob id).k:=fun _=>⟨h1.symm,rfl⟩
 have hr2:∀ (j:Nat) (c:AV) (u:Value),(setA cs f (.dat ⟨k,[]⟩))[j]?=some c→arr[j]?=some u→RelV (killC X id) c u:=fun j c u hj hu=>by
  rcases setA_get hj with ⟨rfl,rfl⟩ | hj
  ·have hv:=h4 j .nilS u hcf hu
   cases hv
   exact .dat _ _ (rep_nilS k)
  ·exact (h4 j c u hj hu).ext s1.ext
 have w3:=setBox_rel (X:=killC X id) (t:=ty) (t':=t') (cs:=setA cs f (.dat ⟨k,[]⟩)) (arr:=arr) (k:=((killC X id).ob id).k) w1 (Nat.le_refl _) hid hold hfree h2 (by rw [setA_len];exact h3) hr2 (fun j i T hj=>by
  rcases setA_get hj with ⟨_,e⟩ | hj
  ·cases e
  ·exact h6 j i T hj)
 have s3:=set_same (X:=killC X id) (id:=id) (ob:=.box ty (setA cs f (.dat ⟨k,[]⟩))) (i:=⟨.pointer (some ⟨b,0,none⟩),fun n=>n=b,((killC X id).ob id).k⟩) (Nat.le_refl _) hold
 have e3:Ext X (setC (killC X id) id (.box ty (setA cs f (.dat ⟨k,[]⟩))) ⟨.pointer (some ⟨b,0,none⟩),fun n=>n=b,((killC X id).ob id).k⟩ (killC X id).nx):=Ext.trans (X:=X) (Y:=killC X id) (fun _ _ h=>h) s1.ext s3.ext
 exact ⟨_,h.ghost e3 w3 (by show hput id _ (hput id .dead X.hp)=_;rw [h.hp]) h.nx,e3,rfl⟩
theorem gst_sound {s s':St} (h:Gst s s'):∀ {X:Ctx},SRel X G s a→∃ X',SRel X' G s' a∧Ext X X'∧X'.w=X.w:=by
 induction h with
 | @opn s x =>
  intro X h
  have hx:=h.ev x
  generalize ev s.fr x=c at hx
  cases c with
  | elp id i off=>exact opn_sound h hx
  | _=>exact ⟨X,h,.refl X,rfl⟩
 | cls id=>exact fun h=>cls_sound h id
 | frz t=>exact fun h=>frz_sound h t
 | nil k t=>exact fun h=>nil_sound h k t
 | nib k t f=>exact fun h=>nib_sound h k t f
 | zcl id=>exact fun h=>zcl_sound h id
 | nid k t=>exact fun h=>nid_sound h k t
 | nbd k t f=>exact fun h=>nbd_sound h k t f
 | @drp s v =>
  intro X h
  unfold drpS
  split
  ·exact ⟨killC X _,h.ghost (kill_same _).ext (kill_rel h.wr _) (by show hput _ .dead X.hp=_;rw [h.hp]) h.nx,(kill_same _).ext,rfl⟩
  ·exact ⟨X,h,.refl X,rfl⟩
 | refl=>exact fun h=>⟨_,h,.refl _,rfl⟩
 | trans _ _ ih1 ih2 =>
  intro X h
  obtain ⟨Y,y1,y2,y3⟩:=ih1 h
  obtain ⟨Z,z1,z2,z3⟩:=ih2 y1
  exact ⟨Z,z1,Ext.trans (fun b _ hb=>by rw [y3];exact hb) y2 z2,z3.trans y3⟩
end
end Go.Ab
namespace Go.Ab
open Go
variable [GI]
section
variable {P:Program} {E:Env} {X Y Z:Ctx} {G:Beg} {o:Oper} {a:Act}
theorem enterB_rel (hw:WRel X G) {c:AV} {u:Value} {F:Nat→Prop} (h:RelA X c u F) (hF:Free X G F):Bound X G (enterB c X.hp X.nx) u F:=by
 by_cases hc:∃ cs,c=.pb cs
 ·obtain ⟨cs,rfl⟩:=hc
  cases h with
  | pl c v F h hF'=>cases h
  | pb cs b t' arr fs F hb hl h hd hnb hF' hsf =>
   let v0:Value:=.pointer (some ⟨b,0,none⟩)
   have w0:=reserve_rel hw v0
   have s0:=reserve_same (X:=X) v0
   have f0:=reserve_foot hw v0
   have ha:Apart (reserve X v0) G cs arr.toList fs:=(agg_apart hl h hd (fun j b hj hb=>(hF' b).2 (.inr ⟨j,hj,hb⟩)) hF).step s0 f0 fun _ _ _ _ h=>h
   obtain ⟨Z,z1,z2,z3,z4,z5,z6,z7⟩:=bindL_rel w0 ha
   change Z.hp=(bindL cs X.hp (X.nx+1)).2.1 at z1
   change Z.nx=(bindL cs X.hp (X.nx+1)).2.2 at z2
   change (bindL cs X.hp (X.nx+1)).1.length=_ at z6
   change ∀ (j:Nat) (c:AV) (u:Value),(bindL cs X.hp (X.nx+1)).1[j]?=some c→_ at z7
   have hidZ:X.nx < Z.nx:=Nat.lt_of_lt_of_le (Nat.lt_succ_self _) z4.ext.nx
   have hold:X.nx < Z.nx→v0=(Z.ob X.nx).v∧(Z.ob X.nx).k=(Z.ob X.nx).k:=fun _=>⟨by rw [(z4.ext.ob X.nx (Nat.lt_succ_self _)).1];simp,rfl⟩
   have hfr:Free Z G (fun n=>n=b):=((hF.sub (F':=fun n=>n=b) fun n hn=>(hF' n).2 (.inl hn)).foot f0 s0.w s0.R fun _ _ h=>h).foot z5 z4.w z4.R fun n hn hn'=>by
    subst hn
    obtain ⟨j,hj,hb'⟩:=hn'
    exact hnb j hj hb'
   have hobZ:(Z.ob X.nx).v=.pointer (some ⟨b,0,none⟩):=(hold hidZ).1.symm
   refine ⟨setC Z X.nx (.box 0 ((bindL cs X.hp (X.nx+1)).1.map (slo X.nx))) ⟨v0,fun n=>n=b,(Z.ob X.nx).k⟩ Z.nx,by show hput _ _ Z.hp=_;rw [z1];rfl,z2,?_,(s0.trans z4).trans (set_same (Nat.le_refl _) hold),?_,?_⟩
   ·exact setBox_rel (t':=t') (arr:=arr) z3 (Nat.le_refl _) hidZ hold hfr (by rw [z4.w];exact hb) (by rw [List.length_map,z6];simp) (fun j c u hj hu=>slo_rel hidZ hobZ hsf (fun c h1=>z7 j c u h1 (by simpa using hu)) hj hu) (slo_tag hl hsf)
   ·exact ((f0.trans z5).trans set_foot).mono fun n hn=>(hF' n).2 (hn.elim (fun h=>h.elim (fun h=>h.elim) (fun ⟨j,hj,h⟩=>.inr ⟨j,hj,h⟩)) .inl)
   ·exact .ptr _ _ _ hidZ ⟨b,by simp [v0],rfl⟩
 ·have e:enterB c X.hp X.nx=bindV c X.hp X.nx:=by cases c<;>first | rfl | exact absurd ⟨_,rfl⟩ hc
  rw [e]
  exact bindV_rel hw h hF
theorem enterBL_rel (hw:WRel X G) {cs:List AV} {us:List Value} {fs:Nat→Nat→Prop} (h:Apart X G cs us fs):BoundL X G (enterBL cs X.hp X.nx) us (fun b=>∃ j,j < cs.length∧fs j b) :=
 binds_rel (f:=enterB) (bl:=enterBL) (fun _ _=>rfl) (fun _ _ _ _=>rfl) (fun hw _ _ _ h hF=>enterB_rel hw h hF) hw h
theorem enter1_rel (hw:WRel X G) {c:AV} {u:Value} {F:Nat→Prop} (h:RelA X c u F) (hF:Free X G F):Bound X G (enter1 c X.hp X.nx) u F:=by
 by_cases hc:∃ f cs,c=.fn f [] cs
 ·obtain ⟨f,cs,rfl⟩:=hc
  have key:∀ (cv:Array Value) (fs:Nat→Nat→Prop),Apart X G cs cv.toList fs→(∀ b,(∃ j,j < cs.length∧fs j b)→F b)→Bound X G (enter1 (.fn f [] cs) X.hp X.nx) (.func (.func f) #[] cv) F:=by
   intro cv fs ha hf
   obtain ⟨Y,y1,y2,y3,y4,y5,y6,y7⟩:=enterBL_rel hw ha
   exact ⟨Y,y1,y2,y3,y4,y5.mono hf,.fn f [] _ #[] cv rfl (by simpa using y6) (fun j c u hj=>by simp at hj) (fun j c u hj hu=>y7 j c u hj (by simpa using hu))⟩
  cases h with
  | pl c v F h hF' =>
   obtain ⟨cv,rfl,hl,hr⟩:=fn_nil h
   exact key cv (fun _ _=>False) (plain_apart (by simpa using hl) fun j c u hj hu=>hr j c u hj (by simpa using hu)) fun b ⟨_,_,h⟩=>h.elim
  | fn f cs vs fs F hl h hd hF' =>
   exact key vs fs (agg_apart hl h hd (fun j b hj hb=>(hF' b).2 ⟨j,hj,hb⟩) hF) fun b h=>(hF' b).2 h
 ·have e:enter1 c X.hp X.nx=enterB c X.hp X.nx:=by
   cases c<;>first | rfl | skip
   rename_i f fs cs
   cases fs with
   | nil=>exact absurd ⟨_,_,rfl⟩ hc
   | cons g fs=>rfl
  rw [e]
  exact enterB_rel hw h hF
theorem enterL_rel (hw:WRel X G) {cs:List AV} {us:List Value} {fs:Nat→Nat→Prop} (h:Apart X G cs us fs):BoundL X G (enterL cs X.hp X.nx) us (fun b=>∃ j,j < cs.length∧fs j b) :=
 binds_rel (f:=enter1) (bl:=enterL) (fun _ _=>rfl) (fun _ _ _ _=>rfl) (fun hw _ _ _ h hF=>enter1_rel hw h hF) hw h
theorem gt_slots:∀ (vs:List AV) (i n:Nat),gt (slots i vs) n=if i≤n then (vs[n - i]?).getD .any else .any
 | [],i,n=>by simp [slots,gt]
 | v :: vs,i,n=>by
  show (if i=n then v else gt (slots (i+1) vs) n)=_
  rw [gt_slots vs (i+1) n]
  by_cases h:i=n
  ·subst h
   rw [if_pos rfl,if_pos (Nat.le_refl _),Nat.sub_self]
   rfl
  ·rw [if_neg h]
   by_cases h2:i+1≤n
   ·rw [if_pos h2,if_pos (by omega)]
    have:n - i=(n - (i+1))+1:=by omega
    rw [this]
    rfl
   ·rw [if_neg h2]
    by_cases h3:i≤n
    ·omega
    ·rw [if_neg h3]
theorem res1_rel (hE:EnvOk P E) {s:St} (h:SRel X G s a) {r:ResultVar} {v:AV} (hr:res1 E s r=some v) :
  ∃ u,((match r with | .tmp t=>pure (a.tmps.getD t undef) | .cell b t=>do loadVar t (← asAddr (a.tmps.getD b undef))):Sem Value).run P X.w=.ok u X.w∧RelV X v u:=by
 cases r with
 | tmp t =>
  cases hr
  exact ⟨_,rfl,h.fr t⟩
 | cell b ty =>
  simp only [res1] at hr
  split at hr
  ·rename_i id off hb
   split at hr
   ·rename_i t cs hbx
    have hv:=h.fr b
    rw [hb] at hv
    obtain ⟨g,arr,t',e1,_,_,_,_,hc,_⟩:=box_cells h.wr hv (by rw [h.hp];exact hbx)
    obtain ⟨u,hu,hrel⟩:=ld_sound (X:=X) (g:=g) (b:=0) hE hr (fun j c hj=>by obtain ⟨u,_,h2,h3⟩:=hc j c hj;exact ⟨u,h2,h3⟩)
    refine ⟨u,?_,hrel⟩
    simp only [e1,asAddr,Sem.run_bind,Sem.run_pure,Result.andThen_ok]
    exact hu
   ·cases hr
  ·cases hr
theorem resL_rel (hE:EnvOk P E) {s:St} (h:SRel X G s a):∀ {rs:List ResultVar} {l:List AV},resL E s rs=some l →
  ∃ us,(rs.mapM (fun r=>(match r with | .tmp t=>pure (a.tmps.getD t undef) | .cell b t=>do loadVar t (← asAddr (a.tmps.getD b undef)):Sem Value))).run P X.w=.ok us X.w∧l.length=us.length∧∀ (j:Nat) (c:AV) (u:Value),l[j]?=some c→us[j]?=some u→RelV X c u
 | [],l,hl=>by cases hl;exact ⟨[],by simp,rfl,fun j c u h=>by simp at h⟩
 | r :: rs,l,hl=>by
  simp only [resL] at hl
  cases h1:res1 E s r with
  | none=>rw [h1] at hl;cases hl
  | some v =>
  rw [h1] at hl
  simp only at hl
  cases h2:resL E s rs with
  | none=>rw [h2] at hl;cases hl
  | some l' =>
  rw [h2] at hl
  cases hl
  obtain ⟨u,hu,hr⟩:=res1_rel hE h h1
  obtain ⟨us,hus,hlen,hrel⟩:=resL_rel hE h h2
  refine ⟨u :: us,?_,by simp [hlen],fun j c u' hj hu'=>?_⟩
  ·rw [List.mapM_cons]
   simp only [Sem.run_bind]
   rw [hu]
   simp only [Result.andThen_ok,hus,Sem.run_pure]
  ·cases j with
   | zero=>simp at hj hu';subst hj;subst hu';exact hr
   | succ j=>exact hrel j c u' (by simpa using hj) (by simpa using hu')
theorem results_rel (hE:EnvOk P E) {s:St} (h:SRel X G s a) {fn:Func} {l:List AV} (hl:resL E s fn.results.toList=some l):∃ v,(results fn a.tmps).run P X.w=.ok v X.w∧RelV X (resV l) v:=by
 obtain ⟨us,h1,h2,h3⟩:=resL_rel hE h hl
 have hrun:(results fn a.tmps).run P X.w=.ok (if h:us.toArray.size=1 then us.toArray[0] else .tuple us.toArray) X.w:=by
  unfold results
  rw [Array.mapM_eq_mapM_toList]
  simp only [Sem.run_bind,Sem.run_map]
  erw [h1]
  rfl
 refine ⟨_,hrun,?_⟩
 match l,us,h2,h3 with
 | [],[],_,_=>exact .tup [] #[] rfl (fun j c u h=>by simp at h)
 | [v],[u],_,h3=>exact h3 0 v u rfl rfl
 | v1 :: v2 :: l,u1 :: u2 :: us,h2,h3 =>
  rw [dif_neg (by simp)]
  exact .tup _ _ (by simpa using h2) (fun j c u hj hu=>h3 j c u hj (by simpa using hu))
end
end Go.Ab
namespace Go.Ab
open Go
variable [GI]
section
variable {P:Program} {E:Env} {G:Beg}
theorem oper_guard {P:Program} {dst op ty pos after gd a w K Q}:Oper.wp P ⟨dst,op,ty,pos,after,gd⟩ a w K Q=Oper.wp P ⟨dst,op,ty,pos,after,none⟩ a w K Q:=rfl
theorem Kept.join {X X' X'':Ctx} {a a':Act}:∀ {m:List MIt},Kept m X a→Kept m X' a'→WRel X G→Ext X X''→Kept m X'' a'
 | [],_,_,_,_=>trivial
 | .stop keep vals X0 _ :: m,h,h',hw,e=>⟨Ext.trans (fun b hb _=>hw.rl b (h.1.R b hb)) h.1 e,h'.2.1,Kept.join (m:=m) h.2.2 h'.2.2 hw e⟩
 | .code _ :: m,h,h',hw,e=>Kept.join (m:=m) h h' hw e
 | .ops _ _ :: m,h,h',hw,e=>Kept.join (m:=m) h h' hw e
 | .inB _ :: m,h,h',hw,e=>Kept.join (m:=m) h h' hw e
theorem run_soundI {Qs:St→Prop} {items:List It} {s:St} (h:Run E Qs items s):∀ (G:Beg) (Fin:Act→World→Prop) (XS:Ctx),EnvOk P E→(∀ s X a,SRel X G s a→X.ety=E.ety→Ext XS X→Qs s→Fin a X.w) →
  ∀ (m:List MIt),Match G items m→Safe G.N m→∀ (X:Ctx) (a:Act),SRel X G s a→X.ety=E.ety→Kept m X a→Ext XS X→(sem P Fin m).1 a X.w:=by
 have xt:∀ {G:Beg} {XS X Y:Ctx},WRel X G→Ext XS X→Ext X Y→Ext XS Y:=fun hw h k=>Ext.trans (fun b hb _=>hw.rl b (h.R b hb)) h k
 induction h with
 | nil h =>
  intro G Fin XS hE hFin m hm hs X a hr he hk hx
  cases m with
  | cons x m=>exact hm.elim
  | nil=>exact hFin _ X a hr he hx h
 | gho hg h ih =>
  intro G Fin XS hE hFin m hm hs X a hr he hk hx
  have ih:=ih G Fin XS hE hFin
  obtain ⟨X',r1,e1,w1⟩:=gst_sound hg hr
  have:=ih m hm hs X' a r1 (e1.ety.trans he) (Kept.ext hk hr.wr e1) (xt hr.wr hx e1)
  rw [w1] at this
  exact this
 | ret h =>
  intro G Fin XS hE hFin m hm hs X a hr he hk hx
  cases m with
  | nil=>exact hm.elim
  | cons x m =>
   cases x<;>first | exact hm.elim | skip
   obtain ⟨rfl,hm⟩:=hm
   exact wp_ret (hFin _ X a hr he hx h)
 | skip h ih =>
  intro G Fin XS hE hFin m hm hs X a hr he hk hx
  have ih:=ih G Fin XS hE hFin
  cases m with
  | nil=>exact hm.elim
  | cons x m =>
   cases x<;>first | exact hm.elim | skip
   obtain ⟨rfl,hm⟩:=hm
   exact wp_skip (ih m hm hs.2.2 X a hr he hk hx)
 | @seq _ _ c1 c2 k s h ih =>
  intro G Fin XS hE hFin m hm hs X a hr he hk hx
  have ih:=ih G Fin XS hE hFin
  cases m with
  | nil=>exact hm.elim
  | cons x m =>
   cases x<;>first | exact hm.elim | skip
   obtain ⟨rfl,hm⟩:=hm
   have ho:=(Bool.and_eq_true _ _ ▸ (show (okC c1&&okC c2)=true from hs.1):_∧_)
   have hw:∀ d∈wr c1++wr c2,d < G.N∧¬ KeepIn m d:=hs.2.1
   refine wp_seq (wp_mono (ih (.code c1 :: .code c2 :: m) ⟨rfl,rfl,hm⟩ ⟨ho.1,fun d hd=>hw d (List.mem_append_left _ hd),ho.2,fun d hd=>hw d (List.mem_append_right _ hd),hs.2.2⟩ X a hr he hk hx) ?_)
   intro e a w hh
   cases e<;>exact hh
 | @block _ _ id c k s h ih =>
  intro G Fin XS hE hFin m hm hs X a hr he hk hx
  have ih:=ih G Fin XS hE hFin
  cases m with
  | nil=>exact hm.elim
  | cons x m =>
   cases x<;>first | exact hm.elim | skip
   obtain ⟨rfl,hm⟩:=hm
   refine wp_block (wp_mono (ih (.code c :: .inB id :: m) ⟨rfl,rfl,hm⟩ ⟨hs.1,hs.2.1,hs.2.2⟩ X a hr he hk hx) ?_)
   intro e a w hh
   cases e<;>exact hh
 | inB h ih =>
  intro G Fin XS hE hFin m hm hs X a hr he hk hx
  have ih:=ih G Fin XS hE hFin
  cases m with
  | nil=>exact hm.elim
  | cons x m =>
   cases x<;>first | exact hm.elim | skip
   obtain ⟨rfl,hm⟩:=hm
   exact ih m hm hs X a hr he hk hx
 | @exit _ _ id k k' s hk' h ih =>
  intro G Fin XS hE hFin m hm hs X a hr he hk hx
  have ih:=ih G Fin XS hE hFin
  cases m with
  | nil=>exact hm.elim
  | cons x m =>
   cases x<;>first | exact hm.elim | skip
   obtain ⟨rfl,hm⟩:=hm
   obtain ⟨m',h1,h2,h3,h4⟩:=exit_match (P:=P) (Fin:=Fin) hk' hm hs.2.2
   exact wp_exit (h3 a X.w (ih m' h1 h2 X a hr he (h4 X a hk) hx))
 | @cond _ _ c x y k s b hc ht hf iht ihf =>
  intro G Fin XS hE hFin m hm hs X a hr he hk hx
  have iht:=fun hb=>iht hb G Fin XS hE hFin
  have ihf:=fun hb=>ihf hb G Fin XS hE hFin
  cases m with
  | nil=>exact hm.elim
  | cons z m =>
   cases z<;>first | exact hm.elim | skip
   obtain ⟨rfl,hm⟩:=hm
   have hv:=hr.ev c
   rw [hc] at hv
   have ho:=(Bool.and_eq_true _ _ ▸ (show (okC x&&okC y)=true from hs.1):_∧_)
   have hw:∀ d∈wr x++wr y,d < G.N∧¬ KeepIn m d:=hs.2.1
   exact wp_cond_split hv.bool_inv (fun hb=>iht hb (.code x :: m) ⟨rfl,hm⟩ ⟨ho.1,fun d hd=>hw d (List.mem_append_left _ hd),hs.2.2⟩ X a hr he hk hx)
    (fun hb=>ihf hb (.code y :: m) ⟨rfl,hm⟩ ⟨ho.2,fun d hd=>hw d (List.mem_append_right _ hd),hs.2.2⟩ X a hr he hk hx)
 | @condQ _ _ c x y k s hc ht hf iht ihf =>
  intro G Fin XS hE hFin m hm hs X a hr he hk hx
  have iht:=iht G Fin XS hE hFin
  have ihf:=ihf G Fin XS hE hFin
  cases m with
  | nil=>exact hm.elim
  | cons z m =>
   cases z<;>first | exact hm.elim | skip
   obtain ⟨rfl,hm⟩:=hm
   have hv:=hr.ev c
   rw [hc] at hv
   have ho:=(Bool.and_eq_true _ _ ▸ (show (okC x&&okC y)=true from hs.1):_∧_)
   have hw:∀ d∈wr x++wr y,d < G.N∧¬ KeepIn m d:=hs.2.1
   obtain ⟨b,hb⟩:∃ b,a.eval c=.bool b:=by
    generalize a.eval c=v at hv
    cases hv with
    | qb b=>exact ⟨b,rfl⟩
   exact wp_cond_split hb (fun _=>iht (.code x :: m) ⟨rfl,hm⟩ ⟨ho.1,fun d hd=>hw d (List.mem_append_left _ hd),hs.2.2⟩ X a hr he hk hx)
    (fun _=>ihf (.code y :: m) ⟨rfl,hm⟩ ⟨ho.2,fun d hd=>hw d (List.mem_append_right _ hd),hs.2.2⟩ X a hr he hk hx)
 | @region _ _ id ops k s h ih =>
  intro G Fin XS hE hFin m hm hs X a hr he hk hx
  have ih:=ih G Fin XS hE hFin
  cases m with
  | nil=>exact hm.elim
  | cons x m =>
   cases x<;>first | exact hm.elim | skip
   obtain ⟨rfl,hm⟩:=hm
   have:=ih (.ops ops.toList ops.toList :: m) ⟨rfl,rfl,hm⟩ ⟨hs.2.1,hs.2.2⟩ X a hr he hk hx
   exact wp_region_list this
 | @draw E _ id ops k s hs iv hok RS HP S' hd hiv h ih =>
  intro G Fin XS hE hFin m hm hs' X a hr he hk hx
  have ih:=fun A hA=>ih A hA G Fin XS hE hFin
  cases m with
  | nil=>exact hm.elim
  | cons x m =>
   cases x<;>first | exact hm.elim | skip
   obtain ⟨rfl,hm⟩:=hm
   exact wp_draw hE hok hd hiv (m:=m) hs'.2.1 (fun A hA X a h1 h2 h3 h4=>ih A hA m hm hs'.2.2 X a h1 h2 h3 h4) hr he hk hx
 | @ops0 _ _ all k s h ih =>
  intro G Fin XS hE hFin m hm hs X a hr he hk hx
  have ih:=ih G Fin XS hE hFin
  cases m with
  | nil=>exact hm.elim
  | cons x m =>
   cases x<;>first | exact hm.elim | skip
   obtain ⟨rfl,rfl,hm⟩:=hm
   show wpList P all.toArray (mkQ Fin (sem P Fin m)) [] a X.w
   exact ih m hm hs.2 X a hr he hk hx
 | @ops1 _ _ all dst op type pos after os k s p v hp nx hst hq h ih =>
  intro G Fin XS hE hFin m hm hs X a hr he hk hx
  have ih:=ih G Fin XS hE hFin
  cases m with
  | nil=>exact hm.elim
  | cons x m =>
   cases x<;>first | exact hm.elim | skip
   obtain ⟨rfl,rfl,hm⟩:=hm
   have hwr:∀ d,dst=some d→d < G.N∧¬ KeepIn m d:=fun d hd=>hs.1 d (by simp [wrO,hd])
   have hwos:∀ d∈wrO os,d < G.N∧¬ KeepIn m d:=fun d hd=>hs.1 d (by cases dst<;>simp [wrO,hd])
   show wpList P all.toArray (mkQ Fin (sem P Fin m)) (⟨dst,op,type,pos,after,none⟩ :: os) a X.w
   refine wpList_plain rfl fun K hK=>?_
   have:=stepW_sound (G:=G) (o:=⟨dst,op,type,pos,after,none⟩) hE he hr.wr (fun x _=>hr.ev x) hr.hp.symm hr.nx.symm hst hq
   refine this K _ fun X' u e1 w1 hh1 hn1 hv1=>hK _ _ ?_
   exact ih (.ops all os :: m) ⟨rfl,rfl,hm⟩ ⟨hwos,hs.2⟩ X' _ (hr.put e1 w1 hh1 hn1 (fun d hd=>(hwr d hd).1) hv1) (e1.ety.trans he)
    (Kept.put (m:=.ops all os :: m) (Kept.ext (m:=.ops all os :: m) hk hr.wr e1) fun d hd hkk=>(hwr d hd).2 hkk) (xt hr.wr hx e1)
 | @opsP _ _ all dst op type pos after j want os k s g p v hg hst hq h ih =>
  intro G Fin XS hE hFin m hm hs X a hr he hk hx
  have ih:=ih G Fin XS hE hFin
  cases m with
  | nil=>exact hm.elim
  | cons x m =>
   cases x<;>first | exact hm.elim | skip
   obtain ⟨rfl,rfl,hm⟩:=hm
   have hwr:∀ d,dst=some d→d < G.N∧¬ KeepIn m d:=fun d hd=>hs.1 d (by simp [wrO,hd])
   have hwos:∀ d∈wrO os,d < G.N∧¬ KeepIn m d:=fun d hd=>hs.1 d (by cases dst<;>simp [wrO,hd])
   have hwant:=gval_wanted hr hg
   show wpList P all.toArray (mkQ Fin (sem P Fin m)) (⟨dst,op,type,pos,after,some (j,want)⟩ :: os) a X.w
   refine wpList_step fun K hK=>?_
   have hgo:∀ X' u,Ext X X'→WRel X' G→X'.hp=s.hp→X'.nx=s.nx→RelV X' (.opt g v) u→K (a.put dst u) X'.w:=fun X' u e1 w1 hh1 hn1 hv1=>hK _ _ (
    ih (.ops all os :: m) ⟨rfl,rfl,hm⟩ ⟨hwos,hs.2⟩ X' _ (hr.put e1 w1 hh1 hn1 (fun d hd=>(hwr d hd).1) hv1) (e1.ety.trans he)
     (Kept.put (m:=.ops all os :: m) (Kept.ext (m:=.ops all os :: m) hk hr.wr e1) fun d hd hkk=>(hwr d hd).2 hkk) (xt hr.wr hx e1))
   show if (yielded all.toArray a.tmps j == some want)=true then _ else _
   rw [hwant]
   cases g with
   | true =>
    rw [if_pos rfl,oper_guard]
    obtain ⟨hq1,hq2⟩:=cjo_all (hq rfl)
    rw [← hr.hp] at hst
    have:=stepP_sound (G:=G) (o:=⟨dst,op,type,pos,after,none⟩) hE he hr.wr (evx_rel hr hq1) hst hq2
    exact this K _ fun X' u e1 w1 hh1 hn1 hv1=>hgo X' u e1 w1 (hh1.trans hr.hp) (hn1.trans hr.nx) (.opt _ _ _ (fun _=>hv1) (fun h=>by cases h))
   | false =>
    rw [if_neg (by simp)]
    exact hgo X undef (.refl X) hr.wr hr.hp hr.nx (.opt _ _ _ (fun h=>by cases h) (fun _=>rfl))
 | @opsG _ _ all dst op type pos after j want os k s g p v hp nx hg hst hq ht hf iht ihf =>
  intro G Fin XS hE hFin m hm hs X a hr he hk hx
  have iht:=fun hb=>iht hb G Fin XS hE hFin
  have ihf:=fun hb=>ihf hb G Fin XS hE hFin
  cases m with
  | nil=>exact hm.elim
  | cons x m =>
   cases x<;>first | exact hm.elim | skip
   obtain ⟨rfl,rfl,hm⟩:=hm
   have hwr:∀ d,dst=some d→d < G.N∧¬ KeepIn m d:=fun d hd=>hs.1 d (by simp [wrO,hd])
   have hwos:∀ d∈wrO os,d < G.N∧¬ KeepIn m d:=fun d hd=>hs.1 d (by cases dst<;>simp [wrO,hd])
   have hwant:=gval_wanted hr hg
   show wpList P all.toArray (mkQ Fin (sem P Fin m)) (⟨dst,op,type,pos,after,some (j,want)⟩ :: os) a X.w
   refine wpList_step fun K hK=>?_
   show if (yielded all.toArray a.tmps j == some want)=true then _ else _
   rw [hwant]
   cases g with
   | true =>
    rw [if_pos rfl,oper_guard]
    have hst':=hst rfl
    have hreq:∀ q,reqx op s.fr=some q→q:=by
     have hq':=hq rfl
     unfold stepW at hst'
     split at hst'
     ·cases hst'
      exact (cjo_all hq').1
     ·split at hst'
      ·cases hst'
       exact (cjo_all hq').1
      ·cases hst'
    have:=stepW_sound (G:=G) (o:=⟨dst,op,type,pos,after,none⟩) hE he hr.wr (evx_rel hr hreq) hr.hp.symm hr.nx.symm hst' (hq rfl)
    refine this K _ fun X' u e1 w1 hh1 hn1 hv1=>hK _ _ ?_
    exact iht rfl (.ops all os :: m) ⟨rfl,rfl,hm⟩ ⟨hwos,hs.2⟩ X' _ (hr.put e1 w1 hh1 hn1 (fun d hd=>(hwr d hd).1) hv1) (e1.ety.trans he)
     (Kept.put (m:=.ops all os :: m) (Kept.ext (m:=.ops all os :: m) hk hr.wr e1) fun d hd hkk=>(hwr d hd).2 hkk) (xt hr.wr hx e1)
   | false =>
    rw [if_neg (by simp)]
    refine hK _ _ ?_
    exact ihf rfl (.ops all os :: m) ⟨rfl,rfl,hm⟩ ⟨hwos,hs.2⟩ X _ (hr.put (.refl X) hr.wr hr.hp hr.nx (fun d hd=>(hwr d hd).1) (.any _)) he
     (Kept.put (m:=.ops all os :: m) hk fun d hd hkk=>(hwr d hd).2 hkk) hx
 | @loop E _ c k s live keep bx hmk I n h0 h ih =>
  intro G Fin XS hE hFin m hm hs X a hr he hk hx
  have ih:=fun n vs bs hI=>ih n vs bs hI G Fin XS hE hFin
  cases m with
  | nil=>exact hm.elim
  | cons x m =>
   cases x<;>first | exact hm.elim | skip
   obtain ⟨rfl,hm⟩:=hm
   obtain ⟨hmk1,hsome⟩:=(Bool.and_eq_true _ _ ▸ hmk:_∧_)
   obtain ⟨hdj,hnd⟩:=(Bool.and_eq_true _ _ ▸ hmk1:_∧_)
   have hdj':∀ t∈keep,t ∉ wr c:=fun t ht hc=>by
    have:=List.all_eq_true.1 hdj t ht
    simp [hc] at this
   let vals:Nat→Value:=fun t=>a.tmps.getD t undef
   let Inv:Nat→Act→World→Prop:=fun i a' w'=>∃ vs bs X'',I i vs bs∧X''.w=w'∧SRel X'' G (part live keep bx s vs bs) a'∧Ext X X''∧(∀ t∈keep,a'.tmps.getD t undef=vals t)∧Kept m X'' a'∧X''.ety=E.ety
   have mk:∀ i s' X' a',SRel X' G s' a'→Ext X X'→(∀ t∈keep,a'.tmps.getD t undef=vals t)→Kept m X' a'→meet live bx s' (I i)→Inv i a' X'.w:=by
    intro i s' X' a' hr' e1 hk1 hk2 hmeet
    obtain ⟨vs,bs,X'',p1,p2,p3,p4⟩:=part_rel hr hr' e1 hnd hsome hk1 hmeet
    exact ⟨vs,bs,X'',p1,p2,p4,p3,hk1,Kept.join hk hk2 hr.wr p3,p3.ety.trans he⟩
   refine wp_loopI Inv n (mk n s X a hr (.refl X) (fun _ _=>rfl) hk h0) ?_
   rintro i a' w' ⟨vs,bs,X'',hI,rfl,hr'',e'',hkk,hkm,hety⟩
   let C:Act→World→Prop:=fun a w=>∃ j,j < i∧Inv j a w
   have hsafe:Safe G.N (.code c :: .stop keep vals X C :: m):=by
    refine ⟨hs.1,fun d hd=>⟨(hs.2.1 d hd).1,fun hh=>?_⟩,hs.2.2⟩
    rcases hh with hh | hh
    ·exact hdj' d hh hd
    ·exact (hs.2.1 d hd).2 hh
   have hmatch:Match G (.code c :: .back live bx I i :: k) (.code c :: .stop keep vals X C :: m) :=
    ⟨rfl,fun j hj s1 X1 a1 hr1 hk1 hmeet=>⟨j,hj,mk j s1 X1 a1 hr1 hk1.1 hk1.2.1 hk1.2.2 hmeet⟩,hm⟩
   refine wp_mono (ih i vs bs hI (.code c :: .stop keep vals X C :: m) hmatch hsafe X'' a' hr'' hety ⟨e'',hkk,hkm⟩ (xt hr.wr hx e'')) ?_
   intro e a w hh
   cases e<;>exact hh
 | @back _ _ live bx I n k s i hi h =>
  intro G Fin XS hE hFin m hm hs X a hr he hk hx
  cases m with
  | nil=>exact hm.elim
  | cons x m =>
   cases x<;>first | exact hm.elim | skip
   obtain ⟨hm1,hm⟩:=hm
   exact hm1 i hi s X a hr hk h
 | @cut _ _ c k s live keep bx hmk M h0 h ih0 ih =>
  intro G Fin XS hE hFin m hm hs X a hr he hk hx
  have ih0:=ih0 G Fin XS hE hFin
  have ih:=fun vs bs hI=>ih vs bs hI G Fin XS hE hFin
  cases m with
  | nil=>exact hm.elim
  | cons x m =>
   cases x<;>first | exact hm.elim | skip
   obtain ⟨rfl,hm⟩:=hm
   obtain ⟨hmk1,hsome⟩:=(Bool.and_eq_true _ _ ▸ hmk:_∧_)
   obtain ⟨hdj,hnd⟩:=(Bool.and_eq_true _ _ ▸ hmk1:_∧_)
   have hdj':∀ t∈keep,t ∉ wr c:=fun t ht hc=>by
    have:=List.all_eq_true.1 hdj t ht
    simp [hc] at this
   let vals:Nat→Value:=fun t=>a.tmps.getD t undef
   have hsafe:Safe G.N (.code c :: .stop keep vals X (sem P Fin m).1 :: m):=by
    refine ⟨hs.1,fun d hd=>⟨(hs.2.1 d hd).1,fun hh=>?_⟩,hs.2.2⟩
    rcases hh with hh | hh
    ·exact hdj' d hh hd
    ·exact (hs.2.1 d hd).2 hh
   have hmatch:Match G (.code c :: .join live bx M :: k) (.code c :: .stop keep vals X (sem P Fin m).1 :: m):=by
    refine ⟨rfl,fun s1 X1 a1 hr1 hk1 hmeet=>?_,hm⟩
    obtain ⟨vs,bs,X'',p1,p2,p3,p4⟩:=part_rel hr hr1 hk1.1 hnd hsome hk1.2.1 hmeet
    have:=ih vs bs p1 m hm hs.2.2 X'' a1 p4 (p3.ety.trans he) (Kept.join hk hk1.2.2 hr.wr p3) (xt hr.wr hx p3)
    rw [p2] at this
    exact this
   refine wp_mono (ih0 (.code c :: .stop keep vals X (sem P Fin m).1 :: m) hmatch hsafe X a hr he ⟨.refl X,fun _ _=>rfl,hk⟩ hx) ?_
   intro e a w hh
   cases e<;>exact hh
 | @inl E Q all dst f args ats type pos after os k s i Q' hi hb hl h ihb ih =>
  intro G Fin XS hE hFin m hm hs X a hr he hk hx
  cases m with
  | nil=>exact hm.elim
  | cons x m =>
   cases x<;>first | exact hm.elim | skip
   obtain ⟨rfl,rfl,hm⟩:=hm
   have hwr:∀ d,dst=some d→d < G.N∧¬ KeepIn m d:=fun d hd=>hs.1 d (by simp [wrO,hd])
   have hwos:∀ d∈wrO os,d < G.N∧¬ KeepIn m d:=fun d hd=>hs.1 d (by cases dst<;>simp [wrO,hd])
   show wpList P all.toArray (mkQ Fin (sem P Fin m)) (⟨dst,.call ⟨.value (.func f),args,ats⟩,type,pos,after,none⟩ :: os) a X.w
   refine wpList_plain rfl fun K hK=>?_
   obtain ⟨hent,fn,hfn,hbody,hrs,hsf⟩:=hE.inl f i hi
   obtain ⟨ho,hwb⟩:=(Bool.and_eq_true _ _ ▸ hsf:_∧_)
   have hfv:a.eval (.func f)=.func (.func f) #[] #[]:=rfl
   unfold Oper.wp
   rw [run_call hfv hent,Oper.upon_enter]
   have hvs:(#[]++args.map a.eval++#[]:Array Value)=args.map a.eval:=by simp
   rw [hvs]
   obtain ⟨ml,mr⟩:=map_rel (X:=X) (e:=ev s.fr) (a:=a) (l:=args) (fun x _=>hr.ev x)
   generalize args.map a.eval=vs at ml mr
   let tm:Array Value:=vs++Array.replicate (fn.ntmps - vs.size) undef
   let G':Beg:={ G with N:=tm.size }
   have cv:∀ {Y:Ctx},WRel Y G→WRel Y G':=fun h=>⟨h.ob,h.nxl,h.dj,h.dr,h.rl,h.kp,h.r0,h.rn,h.fn,h.gi⟩
   have cv':∀ {Y:Ctx},WRel Y G'→WRel Y G:=fun h=>⟨h.ob,h.nxl,h.dj,h.dr,h.rl,h.kp,h.r0,h.rn,h.fn,h.gi⟩
   have hsrel:SRel X G' ⟨slots 0 (args.toList.map (ev s.fr)),s.hp,s.nx⟩ { tmps:=tm,defers:=[] }:=by
    refine ⟨hr.hp,hr.nx,rfl,rfl,fun n=>?_,cv hr.wr⟩
    show RelV X (gt (slots 0 (args.toList.map (ev s.fr))) n) (tm.getD n undef)
    rw [gt_slots,if_pos (Nat.zero_le _),Nat.sub_zero]
    cases hn:(args.toList.map (ev s.fr))[n]? with
    | none=>exact .any _
    | some v =>
     have hlt:n < vs.size:=by rw [← ml];exact (List.getElem?_eq_some_iff.1 hn).1
     have:tm.getD n undef=vs[n]:=by
      rw [Array.getD_eq_getD_getElem?,Array.getElem?_append_left hlt,Array.getElem?_eq_getElem hlt]
      rfl
     rw [this]
     exact mr n v vs[n] hn (Array.getElem?_eq_getElem hlt)
   let Rr:Ending→World→Prop:=fun e w'=>∃ (v:Value) (X':Ctx) (s':St),e=.returned v∧X'.w=w'∧Ext X X'∧WRel X' G∧Q' s'∧X'.hp=s'.hp∧X'.nx=s'.nx∧RelV X' (resV ((resL (i.env E) s' i.rs).getD [])) v
   let Fin':Act→World→Prop:=fun a w'=>a.defers=[]∧∃ v,(results fn a.tmps).run P w'=.ok v w'∧Rr (.returned v) w'
   have hfin:∀ s' X' a',SRel X' G' s' a'→X'.ety=(i.env E).ety→Ext X X'→Q' s'→Fin' a' X'.w:=by
    intro s' X' a' hr' he' hx' hq'
    obtain ⟨l,hl'⟩:=Option.isSome_iff_exists.1 (hl s' hq')
    obtain ⟨v,hv,hrel⟩:=results_rel (hE.inner i) hr' (fn:=fn) (by rw [hrs];exact hl')
    exact ⟨hr'.df,v,hv,v,X',s',rfl,rfl,hx',cv' hr'.wr,hq',hr'.hp,hr'.nx,by rw [hl'];exact hrel⟩
   have main:=ihb G' Fin' X (hE.inner i) hfin [.code i.c] ⟨rfl,trivial⟩ ⟨ho,fun d hd=>⟨by
    have:=of_decide_eq_true (List.all_eq_true.1 hwb d hd)
    show d < tm.size
    simp only [tm,Array.size_append,Array.size_replicate]
    omega,fun h=>h⟩,trivial⟩ X _ hsrel he trivial (.refl X)
   refine Calls.mono (calls_of_wp (R:=Rr) hfn hbody (wp_mono (show i.c.wp P (mkQ Fin' (Fin',fun _ _ _=>False)) _ X.w from main) fun e a w' hh=>by
    cases e with
    | normal=>exact hh
    | ret=>exact hh
    | _=>exact hh.elim)) fun en w' hh=>?_
   obtain ⟨v,X',s',rfl,rfl,e1,w1,hq',hh1,hn1,hv1⟩:=hh
   refine hK _ _ ?_
   exact ih s' hq' G Fin XS hE hFin (.ops all os :: m) ⟨rfl,rfl,hm⟩ ⟨hwos,hs.2⟩ X' _ (hr.put e1 w1 hh1 hn1 (fun d hd=>(hwr d hd).1) hv1) (e1.ety.trans he)
    (Kept.put (m:=.ops all os :: m) (Kept.ext (m:=.ops all os :: m) hk hr.wr e1) fun d hd hkk=>(hwr d hd).2 hkk) (xt hr.wr hx e1)
 | @join _ _ live bx M k s h =>
  intro G Fin XS hE hFin m hm hs X a hr he hk hx
  cases m with
  | nil=>exact hm.elim
  | cons x m =>
   cases x<;>first | exact hm.elim | skip
   obtain ⟨hm1,hm⟩:=hm
   exact hm1 s X a hr hk h
theorem run_sound (hE:EnvOk P E) {Qs:St→Prop} {Fin:Act→World→Prop} {XS:Ctx} (hFin:∀ s X a,SRel X G s a→X.ety=E.ety→Ext XS X→Qs s→Fin a X.w) {items:List It} {s:St} (h:Run E Qs items s) :
  ∀ (m:List MIt),Match G items m→Safe G.N m→∀ (X:Ctx) (a:Act),SRel X G s a→X.ety=E.ety→Kept m X a→Ext XS X→(sem P Fin m).1 a X.w:=run_soundI h G Fin XS hE hFin
end
end Go.Ab
namespace Go.Ab
open Go
variable [GI]
section
variable {P:Program} {E:Env} {X Y Z:Ctx} {G:Beg} {o:Oper} {a:Act}
theorem outV_rel {c:AV} {u:Value} {F:Nat→Prop} (h:RelA X c u F) {Rc:Nat→Prop} (hR:∀ b,X.R b→Rc b):∃ F',(∀ b,F' b→F b)∧RelA (ctx0 X.ety X.w Rc) (outV c) u F':=by
 by_cases hc:∃ cs,c=.tup cs
 ·obtain ⟨cs,rfl⟩:=hc
  cases h with
  | tup cs vs fs F hl h hd hF =>
   obtain ⟨fs',h1,h2⟩:=outs_rel (us:=vs.toList) (fun h _ hR=>out1_rel h hR) (by simpa using hl) (fun j c u hj hu=>h j c u hj (by simpa using hu)) hR
   refine ⟨fun b=>∃ j,j < cs.length∧fs' j b,fun b ⟨j,hj,hb⟩=>(hF b).2 ⟨j,hj,h1 j b hb⟩,?_⟩
   exact .tup _ vs fs' _ (by simpa using hl) (fun j c u hj hu=>h2 j c u hj (by simpa using hu)) (fun j k b hj hk e1 e2=>hd j k b (by simpa using hj) (by simpa using hk) (h1 j b e1) (h1 k b e2)) (fun b=>by simp)
  | pl c v F h hF =>
   cases h with
   | tup cs vs hl h =>
    obtain ⟨fs',h1,h2⟩:=outs_rel (fs:=fun _ _=>False) (us:=vs.toList) (fun h _ hR=>out1_rel h hR) (by simpa using hl) (fun j c u hj hu=>.pl _ _ _ (h j c u hj (by simpa using hu)) fun _ h=>h) hR
    refine ⟨fun _=>False,fun _ h=>h.elim,?_⟩
    exact .tup _ vs fs' _ (by simpa using hl) (fun j c u hj hu=>h2 j c u hj (by simpa using hu)) (fun j k b _ _ e1 _=>(h1 j b e1).elim) (fun b=>⟨fun h=>h.elim,fun ⟨j,_,hb⟩=>h1 j b hb⟩)
 ·have e:outV c=out1 c:=by cases c<;>first | rfl | exact absurd ⟨_,rfl⟩ hc
  rw [e]
  exact out1_rel h hR
theorem outs1_pass (v:AV) (hp:Hp):outs1 hp v=pass1 .io .sc v hp:=by
 cases v with
 | ptr id off=>cases off<;>rfl
 | fn f fs cs=>cases fs<;>rfl
 | _=>rfl
theorem outsA_rel:∀ {ms:List Md} {pv:List AV} {us:List Value} {X:Ctx},WRel X G→pv.length=us.length→(∀ (j:Nat) (c:AV) (u:Value),pv[j]?=some c→us[j]?=some u→RelV X c u) →
  ∃ fs:Nat→Nat→Prop,(outsA ms pv X.hp).length=(inouts ms us).length∧(∀ (j:Nat) (c:AV) (u:Value),(outsA ms pv X.hp)[j]?=some c→(inouts ms us)[j]?=some u→RelA (ctx0 X.ety X.w X.R) c u (fs j)) ∧
   (∀ j k b,j < (outsA ms pv X.hp).length→k < (outsA ms pv X.hp).length→fs j b→fs k b→j=k)∧∀ j b,j < (outsA ms pv X.hp).length→fs j b→∃ id,live X id∧(X.ob id).F b
 | [],pv,us,X,hw,hl,hr=>⟨fun _ _=>False,by cases pv<;>cases us<;>rfl,fun j c u h=>by cases pv<;>simp [outsA] at h,fun _ _ _ _ _ h=>h.elim,fun _ _ _ h=>h.elim⟩
 | m :: ms,[],[],X,hw,hl,hr=>⟨fun _ _=>False,rfl,fun j c u h=>by simp [outsA] at h,fun _ _ _ _ _ h=>h.elim,fun _ _ _ h=>h.elim⟩
 | m :: ms,[],_ :: _,X,hw,hl,hr=>by cases hl
 | m :: ms,_ :: _,[],X,hw,hl,hr=>by cases hl
 | m :: ms,v :: pv,u :: us,X,hw,hl,hr=>by
  have hr':∀ (j:Nat) (c:AV) (u:Value),pv[j]?=some c→us[j]?=some u→RelV X c u:=fun j c u hj hu=>hr (j+1) c u (by simpa using hj) (by simpa using hu)
  cases m with
  | rd=>exact outsA_rel (ms:=ms) hw (by simpa using hl) hr'
  | tk=>exact outsA_rel (ms:=ms) hw (by simpa using hl) hr'
  | io =>
   have hp1:=pass1_rel (m:=.io) (p:=.sc) hw (by simp) (hr 0 v u rfl rfl)
   rw [← outs1_pass] at hp1
   obtain ⟨F,h1,h2,h3,h4,h5,h6⟩:=hp1
   obtain ⟨fs,k1,k2,k3,k4⟩:=outsA_rel (ms:=ms) (pv:=pv) (us:=us) h1 (by simpa using hl) (fun j c u hj hu=>(hr' j c u hj hu).ext h2.ext)
   obtain ⟨F',hF',hra⟩:=h4 X.R (fun _ h=>h)
   have heq:outsA (.io :: ms) (v :: pv) X.hp=(outs1 X.hp v).1 :: outsA ms pv (outs1 X.hp v).2:=rfl
   rw [heq]
   show ∃ fs:Nat→Nat→Prop,_=(u :: inouts ms us).length∧(∀ (j:Nat) (c:AV) (w:Value),_→(u :: inouts ms us)[j]?=some w→_)∧_
   refine ⟨consF F' fs,by simp [k1],fun j c w hj hu=>?_,fun j k b hj hk e1 e2=>?_,fun j b hj e1=>?_⟩
   ·cases j with
    | zero=>simp at hj hu;subst hj;subst hu;exact hra
    | succ j=>exact k2 j c w (by simpa using hj) (by simpa using hu)
   ·have hd:∀ j,j < (outsA ms pv (outs1 X.hp v).2).length→fs j b→F' b→False:=fun j hj e1 e2=>by
     obtain ⟨id,l1,l2⟩:=k4 j b hj e1
     exact h5.nl id b l1 l2 (hF' b e2)
    cases j with
    | zero=>cases k with
     | zero=>rfl
     | succ k=>exact (hd k (by simpa using hk) e2 e1).elim
    | succ j=>cases k with
     | zero=>exact (hd j (by simpa using hj) e1 e2).elim
     | succ k=>exact congrArg (·+1) (k3 j k b (by simpa using hj) (by simpa using hk) e1 e2)
   ·cases j with
    | zero=>exact h6 b (hF' b e1)
    | succ j =>
     obtain ⟨id,l1,l2⟩:=k4 j b (by simpa using hj) e1
     exact (h3 id b l1 l2).resolve_right fun h=>h
theorem fnOk_of_body (hE:EnvOk P E) {f:FuncId} {fn:Func} {sp:Spec} {c:Code} (hf:P.funcs[f]?=some fn) (hb:fn.body=some c) (hs:(okC c&&(wr c).all fun d=>decide (d < fn.ntmps))=true)
  (h:∀ args p r outs,sp.run args=some (p,r,outs)→(∀ q,p=some q→q)→Body E fn sp.modes args fun r' outs'=>r'=r∧outs'=outs):FnOk P E.ety f sp:=by
 intro args p r outs hrun hq w R vs F hargs hR hFR hFl hG
 obtain ⟨c',hb',hrunE⟩:=h args p r outs hrun hq
 rw [hb] at hb'
 cases hb'
 obtain ⟨ho,hw⟩:=(Bool.and_eq_true _ _ ▸ hs:_∧_)
 refine calls_of_wp hf hb ?_
 -- the beginning
 let G:Beg:=⟨w,R,F,(vs++Array.replicate (fn.ntmps - vs.size) undef).size⟩
 have wb:WRel (ctx0 E.ety w R) G:=⟨fun _=>trivial,fun _ _=>rfl,fun _ _ _ h=>absurd rfl h,fun _ _ h=>absurd rfl h,hR,.refl _ _,fun _ h=>h,fun _ h=>.inl h,fun _ _ h=>absurd rfl h,hG⟩
 have hvs:vs=vs.toList.toArray:=by simp
 rw [hvs] at hargs
 obtain ⟨fs,l1,l2,l3,l4⟩:=hargs.list
 have hap:Apart (ctx0 E.ety w R) G args vs.toList fs:=⟨l1,l2,l3,fun j hj=>⟨fun b hb=>hFR b (l4 j b hj hb),fun _ _ h=>absurd rfl h,fun b hb=>hFl b (l4 j b hj hb),fun b hb=>.inr (l4 j b hj hb)⟩⟩
 obtain ⟨X,x1,x2,x3,x4,x5,x6,x7⟩:=enterL_rel wb hap
 change X.hp=(enterL args [] 0).2.1 at x1
 change X.nx=(enterL args [] 0).2.2 at x2
 change (enterL args [] 0).1.length=_ at x6
 change ∀ (j:Nat) (c:AV) (u:Value),(enterL args [] 0).1[j]?=some c→_ at x7
 have xw:X.w=w:=x4.w
 have xe:X.ety=E.ety:=x4.ext.ety
 have hsrel:SRel X G ⟨slots 0 (enterL args [] 0).1,(enterL args [] 0).2.1,(enterL args [] 0).2.2⟩ { tmps:=vs++Array.replicate (fn.ntmps - vs.size) undef,defers:=[] }:=by
  refine ⟨x1,x2,rfl,rfl,fun n=>?_,x3⟩
  show RelV X (gt (slots 0 (enterL args [] 0).1) n) ((vs++Array.replicate (fn.ntmps - vs.size) undef).getD n undef)
  rw [gt_slots,if_pos (Nat.zero_le _),Nat.sub_zero]
  cases hn:(enterL args [] 0).1[n]? with
  | none=>exact .any _
  | some v =>
   have hlt:n < vs.size:=by rw [← Array.length_toList,← x6];exact (List.getElem?_eq_some_iff.1 hn).1
   have:(vs++Array.replicate (fn.ntmps - vs.size) undef).getD n undef=vs[n]:=by
    rw [Array.getD_eq_getD_getElem?,Array.getElem?_append_left hlt,Array.getElem?_eq_getElem hlt]
    rfl
   rw [this]
   exact x7 n v vs[n] hn (by simp [hlt])
 let Rr:Ending→World→Prop:=fun e w'=>∃ (v:Value) (R' F':Nat→Prop),e=.returned v∧(∀ b,R b→R' b)∧(∀ b,R' b→b < w'.heap.size)∧(∀ b,R' b→R b∨w.heap.size≤b∨F b) ∧
   RelA (ctx0 E.ety w' R') (.agg (r :: outs)) (.agg (v :: inouts sp.modes vs.toList).toArray) F'∧(∀ b,F' b→¬ R' b)∧(∀ b,F' b→w.heap.size≤b∨F b)∧Keep F w w'
 let Fin:Act→World→Prop:=fun a w'=>a.defers=[]∧∃ v,(results fn a.tmps).run P w'=.ok v w'∧Rr (.returned v) w'
 have hfin:∀ s X1 a,SRel X1 G s a→X1.ety=E.ety→Ext X X1→fin E fn.results.toList sp.modes (enterL args [] 0).1 (fun r' outs'=>r'=r∧outs'=outs) s→Fin a X1.w:=by
  intro s X1 a hr he hx hfn
  unfold fin at hfn
  cases hl:resL E s fn.results.toList with
  | none=>rw [hl] at hfn;exact hfn.elim
  | some l =>
  rw [hl] at hfn
  obtain ⟨hf1,hf2⟩:=hfn
  obtain ⟨v,hv,hrel⟩:=results_rel hE hr hl
  refine ⟨hr.df,v,hv,?_⟩
  obtain ⟨Fr,t1,t2,t3,t4,t5,t6⟩:=takeV_rel hr.wr hrel
  rw [hr.hp] at t1 t2 t3 t4 t5
  generalize takeV (resV l) s.hp=T at t1 t2 t3 t4 t5 hf1 hf2
  obtain ⟨tv,hp1⟩:=T
  simp only at t1 t2 t3 t4 t5 hf1 hf2
  generalize hX2:({ X1 with hp:=hp1 }:Ctx)=X2 at t1 t2 t3 t4 t5
  have x2h:X2.hp=hp1:=by rw [← hX2]
  have eX2:Ext X X2:=Ext.trans (X:=X) (Y:=X1) (Z:=X2) (fun b hb _=>hr.wr.rl b (hx.R b hb)) hx t2.ext
  obtain ⟨fs2,o1,o2,o3,o4⟩:=outsA_rel (ms:=sp.modes) (pv:=(enterL args [] 0).1) (us:=vs.toList) t1 x6 (fun j c u hj hu=>(x7 j c u hj hu).ext eX2)
  rw [x2h,hf2] at o1 o2 o3 o4
  obtain ⟨Fr',r1,r2⟩:=outV_rel t4 (Rc:=X2.R) (fun _ h=>h)
  rw [hf1] at r2
  have e2:X2.ety=E.ety:=t2.ext.ety.trans he
  have w2:X2.w=X1.w:=t2.w
  rw [e2,w2] at r2 o2
  have hcross:∀ j b,j < outs.length→fs2 j b→Fr' b→False:=fun j b hj e1 e2=>by
   obtain ⟨id,m1,m2⟩:=o4 j b hj e1
   exact t5.nl id b m1 m2 (r1 b e2)
  have hfoot:∀ j b,j < (r :: outs).length→consF Fr' fs2 j b→¬ X2.R b∧(w.heap.size≤b∨F b):=by
   intro j b hj hbb
   cases j with
   | zero=>exact ⟨t5.nr b (r1 b hbb),t5.ok b (r1 b hbb)⟩
   | succ j =>
    obtain ⟨id,m1,m2⟩:=o4 j b (by simpa using hj) hbb
    exact ⟨t1.dr id b m1 m2,t1.fn id b m1 m2⟩
  refine ⟨v,X2.R,fun b=>∃ j,j < (r :: outs).length∧consF Fr' fs2 j b,rfl,t1.r0,by rw [← w2];exact t1.rl,t1.rn,?_,fun b ⟨j,hj,hbb⟩=>(hfoot j b hj hbb).1,fun b ⟨j,hj,hbb⟩=>(hfoot j b hj hbb).2,by rw [← w2];exact t1.kp⟩
  refine .agg _ _ (consF Fr' fs2) _ (by simp [o1]) (fun j c u hj hu=>?_) (fun j k b hj hk e1 e2=>?_) (fun _=>Iff.rfl)
  ·cases j with
   | zero=>simp at hj hu;subst hj;subst hu;exact r2
   | succ j=>exact o2 j c u (by simpa using hj) (by simpa using hu)
  ·cases j with
   | zero=>cases k with
    | zero=>rfl
    | succ k=>exact (hcross k b (by simpa using hk) e2 e1).elim
   | succ j=>cases k with
    | zero=>exact (hcross j b (by simpa using hj) e1 e2).elim
    | succ k=>exact congrArg (·+1) (o3 j k b (by simpa using hj) (by simpa using hk) e1 e2)
 have main:=run_sound (P:=P) (G:=G) hE (Fin:=Fin) (XS:=X) hfin hrunE [.code c] ⟨rfl,trivial⟩ ⟨ho,fun d hd=>⟨?_,fun h=>h⟩,trivial⟩ X _ hsrel xe trivial (.refl X)
 ·rw [xw] at main
  refine wp_mono (show c.wp P (mkQ Fin (Fin,fun _ _ _=>False)) _ w from main) ?_
  intro e a w' hh
  cases e with
  | normal=>exact hh
  | ret=>exact hh
  | _=>exact hh.elim
 ·have:=of_decide_eq_true (List.all_eq_true.1 hw d hd)
  show d < (vs++Array.replicate (fn.ntmps - vs.size) undef).size
  simp only [Array.size_append,Array.size_replicate]
  omega
end
end Go.Ab
namespace Go.Ab
open Go
variable [GI]
theorem Keep.keptBut {w w':World} (h:Keep (fun _=>False) w w') (may:MemPlace→Prop):w.keptBut w' may:=by
 refine ⟨h.os,h.output,fun i hi=>?_⟩
 rw [h.block i hi (fun h=>h)]
 cases w.heap[i]? with
 | none=>rfl
 | some o=>cases o<;>first | exact ⟨rfl,rfl,rfl,fun _ _=>rfl⟩ | exact .inr ⟨rfl,rfl⟩ | rfl
theorem Keep.below {w w':World} (h:Keep (fun _=>False) w w'):RowKit.Below w.heap.size w w':=⟨h.os,h.tape,h.output,h.size,fun k hk=>h.block k hk fun h=>h⟩
end Go.Ab
