import Derived.Test.YtjnachnjfdgpgaaGreatDoorFnBs
import Derived.Test.YtjnachnjfdgpgaaGreatDoorFnT
import Derived.Test.YtjnachnjfdgpgaaGreatDoorFnMn
set_option linter.all false
set_option maxRecDepth 20000
set_option maxHeartbeats 1000000
namespace Go.Ab
open Go Go.Proofs.Tryz
open Go.Lib
mutual
def wNd:Node→Nat
 | .mk _ _ n t a ks=>n.length+max t.length 120+szL szAt a+wNds ks
def wNds:List Node→Nat
 | []=>0
 | x :: r=>1+wNd x+wNds r
end
mutual
theorem szNd_w:∀ x:Node,szNd x≤wNd x
 | .mk k s n t a ks=>by
  have:=szNds_w ks
  rw [szNd,wNd];omega
theorem szNds_w:∀ l:List Node,szNds l≤wNds l
 | []=>Nat.zero_le _
 | x :: r=>by
  have h1:=szNd_w x
  have h2:=szNds_w r
  rw [szNds,wNds];omega
end
theorem wNds_cons (x:Node) (r:List Node):wNds (x :: r)=1+wNd x+wNds r:=by rw [wNds]
theorem wNds_app (l:List Node) (x:Node):wNds (l++[x])=wNds l+1+wNd x:=by
 induction l with
 | nil=>rw [List.nil_append,wNds_cons,wNds];omega
 | cons y r ih=>rw [List.cons_append,wNds_cons,wNds_cons,ih];omega
theorem wNds_set:∀ (l:List Node) (i:Nat) (y:Node),wNd y=wNd (l.getD i nodeD)→wNds (l.set i y)=wNds l
 | [],_,_,_=>rfl
 | x :: r,0,y,h=>by
  have h:wNd y=wNd x:=h
  rw [List.set_cons_zero,wNds_cons,wNds_cons,h]
 | x :: r,i+1,y,h=>by
  have h:wNd y=wNd (r.getD i nodeD):=by simpa using h
  rw [List.set_cons_succ,wNds_cons,wNds_cons,wNds_set r i y h]
theorem wNd_eq (x:Node):wNd x=x.name.length+max x.text.length 120+szL szAt x.attrs+wNds x.kids:=by cases x;rw [wNd];rfl
theorem wNd_setKids (x:Node) (l:List Node):wNd (setKids x l)+wNds x.kids=wNd x+wNds l:=by
 rw [wNd_eq,wNd_eq]
 show x.name.length+max x.text.length 120+szL szAt x.attrs+wNds l+_=_
 omega
def WR (R:List Node) (c:Int):Prop:=(wNds R:Int)≤451 * (c+1)
theorem w_pop {R:List Node}:wNds (popR R)=wNds R:=by
 match R with
 | []=>rfl
 | [x]=>rfl
 | x :: y :: r =>
  have:=wNd_setKids y (y.kids++[x])
  rw [wNds_app] at this
  rw [popR,wNds_cons,wNds_cons,wNds_cons];omega
theorem w_pops:∀ (n:Nat) {R:List Node},wNds (popsR n R)=wNds R
 | 0,_=>rfl
 | n+1,R=>by rw [popsR,w_pop,w_pops n]
theorem w_add {x:Node} {R:List Node} (hR:R≠[]):wNds (addR x R)=wNds R+1+wNd x:=by
 obtain ⟨y,r,rfl⟩:=R_cons hR
 have:=wNd_setKids y (y.kids++[x])
 rw [wNds_app] at this
 rw [addR,wNds_cons,wNds_cons];omega
theorem w_leaf (k s:Int) (n t:Str) (a:List Attr):wNd (.mk k s n t a [])=n.length+max t.length 120+szL szAt a:=by rw [wNd,wNds];omega
theorem w_put {R:List Node} {c:Int} {x:Node} (hR:R≠[]) (hw:WR R c) (hx:wNd x≤450) (h0:(putR R c x).2.2=0):WR (putR R c x).1 (putR R c x).2.1:=by
 unfold putR at h0 ⊢
 by_cases h1:R.length=11
 ·rw [if_pos h1] at h0;simp at h0
 rw [if_neg h1] at h0 ⊢
 by_cases h2:60 < c+1
 ·rw [if_pos h2] at h0;simp at h0
 rw [if_neg h2] at h0 ⊢
 by_cases h3:120 < x.text.length
 ·rw [if_pos h3] at h0;simp at h0
 rw [if_neg h3]
 unfold WR at hw ⊢
 simp only
 rw [w_add hR];omega
theorem w_words {R:List Node} {c:Int} {t:Str} (hI:InvR R c) (hw:WR R c) (h0:(wordsR R c t).2.2=0):WR (wordsR R c t).1 (wordsR R c t).2.1:=by
 unfold wordsR at h0 ⊢
 by_cases g1:isTx R=true
 ·rw [if_pos g1] at h0 ⊢
  by_cases g2:120 < lastLen R+t.length
  ·rw [if_pos g2] at h0;simp at h0
  rw [if_neg g2] at h0 ⊢
  obtain ⟨y,r,rfl⟩:=R_cons hI.1
  unfold lastLen at g2
  simp only at g2
  unfold WR at hw ⊢
  have hs:wNd (setText (lastN y.kids) ((lastN y.kids).text++t))=wNd (y.kids.getD (y.kids.length - 1) nodeD):=by
   show wNd (setText (lastN y.kids) ((lastN y.kids).text++t))=wNd (lastN y.kids)
   rw [wNd_eq,wNd_eq]
   show _+max ((lastN y.kids).text++t).length 120+_+_=_
   rw [List.length_append,Nat.max_eq_right (by omega),Nat.max_eq_right (by omega)];rfl
  have:=wNd_setKids y (y.kids.set (y.kids.length - 1) (setText (lastN y.kids) ((lastN y.kids).text++t)))
  rw [wNds_set _ _ _ hs] at this
  simp only [joinR]
  rw [wNds_cons] at hw ⊢
  omega
 ·rw [if_neg g1] at h0 ⊢
  by_cases h3:120 < t.length
  ·exfalso
   unfold putR at h0
   split at h0
   ·simp at h0
   ·split at h0
    ·simp at h0
    ·rw [if_pos (show 120 < (Node.mk 2 0 [] t [] []).text.length from h3)] at h0;simp at h0
  ·exact w_put hI.1 hw (by rw [w_leaf,Nat.max_eq_right (by omega)];show 0+120+0≤450;omega) h0
theorem w_opens {R:List Node} {c:Int} {tk:Tokn} (hI:InvR R c) (hw:WR R c) (h1:tk.name.length≤12) (h2:szL szAt tk.attrs≤318) (h0:(opensR R c tk).2.2=0):WR (opensR R c tk).1 (opensR R c tk).2.1:=by
 have hs:=stkL hI.1
 have hq:=inv_pops (n:=(stkR R).length - stayN (stkR R) tk.name) (by omega) hI
 have hwq:WR (popsR ((stkR R).length - stayN (stkR R) tk.name) R) c:=by unfold WR;rw [w_pops];exact hw
 unfold opensR at h0 ⊢
 simp only at h0 ⊢
 have hx:wNd (Node.mk 1 (spaceN (stkR R) tk.name (stayN (stkR R) tk.name)) tk.name [] tk.attrs [])≤450:=by
  rw [w_leaf];show _+120+_≤450;omega
 generalize Node.mk 1 (spaceN (stkR R) tk.name (stayN (stkR R) tk.name)) tk.name [] tk.attrs []=x at *
 generalize popsR ((stkR R).length - stayN (stkR R) tk.name) R=Q at *
 by_cases g1:(putR Q c x).2.2≠0
 ·rw [if_pos g1] at h0;exact absurd h0 g1
 rw [if_neg g1] at h0 ⊢
 have g0:(putR Q c x).2.2=0:=by simpa using g1
 by_cases g2:spaceN (stkR R) tk.name (stayN (stkR R) tk.name)=0∧isVoidS tk.name=true∨spaceN (stkR R) tk.name (stayN (stkR R) tk.name)≠0∧tk.self=true
 ·rw [if_pos g2];exact w_put hq.1 hwq hx g0
 rw [if_neg g2]
 unfold WR at hwq ⊢
 simp only
 rw [wNds_cons];omega
theorem opS_ok {t:Str}:∀ (f i:Nat) (s:Bool) (l:List Attr) (q:Nat × Bool × List Attr),(l=[]∨attrsOK l=true)→opS t f i s l=some q→q.2.2=[]∨attrsOK q.2.2=true
 | 0,_,_,_,_,_,h=>by cases h
 | f+1,i,s,l,q,hl,h=>by
  rw [opS] at h
  by_cases hi:i < t.length
  ·rw [if_pos hi] at h
   by_cases h1:t.getD i 0=62
   ·rw [if_pos h1] at h;cases h;exact hl
   rw [if_neg h1] at h
   split at h
   ·exact opS_ok f _ _ _ _ hl h
   ·exact opS_ok f _ _ _ _ (keepT_ok hl) h
  ·rw [if_neg hi] at h;cases h
theorem open_ok (t:Str) (i:Nat):(openS t i).name.length≤12∧szL szAt (openS t i).attrs≤318:=by
 unfold openS
 cases h:opT t (scanU tagStop t (i+1)) false [] with
 | none=>exact ⟨Nat.zero_le _,Nat.zero_le _⟩
 | some q =>
  simp only
  split
  ·rename_i ht
   refine ⟨?_,?_⟩
   ·unfold tagOK within at ht
    simp only [Bool.and_eq_true,decide_eq_true_iff] at ht
    simp only
    omega
   ·rcases opS_ok _ _ _ _ _ (.inl rfl) h with h | h
    ·simp only;rw [h];exact Nat.zero_le _
    ·exact (attrsOK_sz h).2
  ·exact ⟨Nat.zero_le _,Nat.zero_le _⟩
theorem next_ok (t raw:Str) (i:Nat) (h:(nextS t i raw).kind=2):(nextS t i raw).name.length≤12∧szL szAt (nextS t i raw).attrs≤318:=by
 unfold nextS at h ⊢
 split
 ·exact ⟨Nat.zero_le _,Nat.zero_le _⟩
 split
 ·split
  ·exact open_ok t i
  split
  ·rename_i h0 h1 h2 h3
   rw [if_neg h0,if_pos h1,if_neg h2,if_pos h3] at h
   unfold closeS at h
   split at h
   ·split at h<;>cases h
   ·cases h
  split
  ·exact ⟨Nat.zero_le _,Nat.zero_le _⟩
  split
  ·exact ⟨Nat.zero_le _,Nat.zero_le _⟩
  ·exact ⟨Nat.zero_le _,Nat.zero_le _⟩
 ·exact ⟨Nat.zero_le _,Nat.zero_le _⟩
theorem w_take {R:List Node} {c:Int} {tk:Tokn} {raw:Str} (hI:InvR R c) (hw:WR R c) (hk:tk.kind=2→tk.name.length≤12∧szL szAt tk.attrs≤318) (h0:(takeR R c tk raw).2.2=0):WR (takeR R c tk raw).1 (takeR R c tk raw).2.1:=by
 unfold takeR at h0 ⊢
 by_cases g1:tk.kind=1
 ·rw [if_pos g1] at h0 ⊢;exact w_words hI hw h0
 rw [if_neg g1] at h0 ⊢
 by_cases g2:raw≠[]
 ·rw [if_pos g2]
  unfold WR;simp only;rw [w_pop];exact hw
 rw [if_neg g2] at h0 ⊢
 by_cases g3:tk.kind=4
 ·rw [if_pos g3] at h0 ⊢
  by_cases h3:120 < tk.text.length
  ·exfalso
   unfold putR at h0
   split at h0
   ·simp at h0
   ·split at h0
    ·simp at h0
    ·rw [if_pos (show 120 < (Node.mk 3 0 [] tk.text [] []).text.length from h3)] at h0;simp at h0
  ·exact w_put hI.1 hw (by rw [w_leaf,Nat.max_eq_right (by omega)];show 0+120+0≤450;omega) h0
 rw [if_neg g3] at h0 ⊢
 by_cases g4:tk.kind=2
 ·rw [if_pos g4] at h0 ⊢
  obtain ⟨a1,a2⟩:=hk g4
  exact w_opens hI hw a1 a2 h0
 rw [if_neg g4] at h0 ⊢
 by_cases g5:tk.kind=3
 ·rw [if_pos g5]
  unfold closesR
  split
  ·exact hw
  ·unfold WR;simp only;rw [w_pops];exact hw
 rw [if_neg g5];exact hw
theorem w_R0:WR R0 0:=by
 unfold WR R0
 rw [wNds_cons,wNd_eq]
 decide
theorem run_w (t:Str):∀ (f i:Nat) (R:List Node) (c:Int),InvR R c→WR R c→(runR t f i R c).2.2=0→InvR (runR t f i R c).1 (runR t f i R c).2.1∧WR (runR t f i R c).1 (runR t f i R c).2.1
 | 0,_,_,_,hI,hw,_=>⟨hI,hw⟩
 | f+1,i,R,c,hI,hw,h0=>by
  rw [runR] at h0 ⊢
  by_cases hi:i < t.length
  ·rw [if_pos hi] at h0 ⊢
   by_cases h1:(takeR R c (nextS t i (rawI (stkR R))) (rawI (stkR R))).2.2≠0
   ·rw [if_pos h1] at h0;exact absurd h0 h1
   rw [if_neg h1] at h0 ⊢
   have h1:(takeR R c (nextS t i (rawI (stkR R))) (rawI (stkR R))).2.2=0:=by simpa using h1
   exact run_w t f _ _ _ (inv_take hI (rawI_ne hI.1) h1) (w_take hI hw (next_ok _ _ _) h1) h0
  ·rw [if_neg hi];exact ⟨hI,hw⟩
theorem build_sz (t:Str):szL szNd (buildR t).1≤27511:=by
 unfold buildR
 by_cases h:(runR t (t.length+1) 0 R0 0).2.2≠0
 ·rw [if_pos h];exact Nat.zero_le _
 rw [if_neg h]
 obtain ⟨hI,hw⟩:=run_w t (t.length+1) 0 R0 0 inv_R0 w_R0 (by simpa using h)
 generalize runR t (t.length+1) 0 R0 0=U at *
 obtain ⟨R,c,e⟩:=U
 simp only at *
 have hw2:WR (popsR (R.length - 1) R) c:=by unfold WR;rw [w_pops];exact hw
 have hp:=popsR_ne (n:=R.length - 1) (R:=R) (by have:=List.length_pos_iff.2 hI.1;omega)
 obtain ⟨y,r,e2⟩:=R_cons hp
 rw [e2] at hw2 ⊢
 unfold WR at hw2
 rw [wNds_cons,wNd_eq] at hw2
 have hc:=hI.2.2.2.1
 have:=szNds_w y.kids
 rw [szNds_eq] at this
 show szL szNd y.kids≤_
 omega
end Go.Ab
