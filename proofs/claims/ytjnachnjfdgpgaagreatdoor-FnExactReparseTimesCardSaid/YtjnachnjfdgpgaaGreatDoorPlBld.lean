import Derived.Test.YtjnachnjfdgpgaaGreatDoorFnTo
set_option linter.all false
set_option maxRecDepth 20000
set_option maxHeartbeats 1000000
namespace Go.Ab
open Go Go.Proofs.Tryz
open Go.Lib
def setKids (x:Node) (ks:List Node):Node:=.mk x.kind x.space x.name x.text x.attrs ks
def setText (x:Node) (t:Str):Node:=.mk x.kind x.space x.name t x.attrs x.kids
def outL:List Str:=[[112],[100,105,118],[98],[105],[98,114],[105,109,103],[117,108],[108,105],[116,97,98,108,101],[104,49]]
def isOutS (m:Str):Bool:=hasS outL m
def endsL:List Str:=[[112],[100,105,118],[117,108],[116,97,98,108,101],[104,49]]
def spaceS (m:Str):Int:=if m=[115,118,103] then 1 else if m=[109,97,116,104] then 2 else 0
def brkN (st:List Opn) (b:Bool):Nat→Nat
 | 0=>0
 | n+1=>if b=true∧(st.getD n opnD).space≠0 then brkN st b n else n+1
def isOpn (st:List Opn) (n:Nat) (m:Str):Bool:=decide (0 < n)&&(decide ((st.getD (n - 1) opnD).name=m)&&decide ((st.getD (n - 1) opnD).space=0))
def pN (st:List Opn) (m:Str) (n:Nat):Nat:=if (isOpn st n [112]&&hasS endsL m)=true then n - 1 else n
def liN (st:List Opn) (m:Str) (n:Nat):Nat:=if (isOpn st n [108,105]&&decide (m=[108,105]))=true then n - 1 else n
def stayN (st:List Opn) (m:Str):Nat:=liN st m (pN st m (brkN st (isOutS m) st.length))
def spaceN (st:List Opn) (m:Str) (n:Nat):Int:=if spaceS m=0∧0 < n then (st.getD (n - 1) opnD).space else spaceS m
theorem brkN_le (st:List Opn) (b:Bool):∀ n,brkN st b n≤n
 | 0=>Nat.le_refl _
 | n+1=>by
  rw [brkN];split
  ·exact Nat.le_succ_of_le (brkN_le st b n)
  ·exact Nat.le_refl _
theorem pN_le (st:List Opn) (m:Str) (n:Nat):pN st m n≤n:=by unfold pN;split<;>omega
theorem liN_le (st:List Opn) (m:Str) (n:Nat):liN st m n≤n:=by unfold liN;split<;>omega
theorem stayN_le (st:List Opn) (m:Str):stayN st m≤st.length:=Nat.le_trans (liN_le ..) (Nat.le_trans (pN_le ..) (brkN_le ..))
def closN (st:List Opn) (m:Str):Nat→Nat
 | 0=>0
 | n+1=>if (st.getD n opnD).name=m then n+1 else closN st m n
theorem closN_le (st:List Opn) (m:Str):∀ n,closN st m n≤n
 | 0=>Nat.le_refl _
 | n+1=>by
  rw [closN];split
  ·exact Nat.le_refl _
  ·exact Nat.le_succ_of_le (closN_le st m n)
structure BI where
 st:List Opn
 ls:List (List Node)
 c:Int
def lastK (l:List Node) (ks:List Node):List Node:=l.set (l.length - 1) (setKids (l.getD (l.length - 1) nodeD) ks)
def endI (b:BI):BI:=⟨b.st.take (b.st.length - 1),(b.ls.take b.st.length).set (b.st.length - 1) (lastK (b.ls.getD (b.st.length - 1) []) (b.ls.getD b.st.length [])),b.c⟩
def endsI:Nat→BI→BI
 | 0,b=>b
 | n+1,b=>endI (endsI n b)
def putI (b:BI) (x:Node):BI × Int :=
 if b.st.length=10 then (⟨b.st,b.ls,b.c+1⟩,11) else if 60 < b.c+1 then (⟨b.st,b.ls,b.c+1⟩,6) else if 120 < x.text.length then (⟨b.st,b.ls,b.c+1⟩,8)
 else (⟨b.st,b.ls.set b.st.length (b.ls.getD b.st.length []++[x]),b.c+1⟩,0)
def wordsI (b:BI) (t:Str):BI × Int :=
 if b.ls.getD b.st.length []≠[]∧((b.ls.getD b.st.length []).getD ((b.ls.getD b.st.length []).length - 1) nodeD).kind=2 then
  if 120 < ((b.ls.getD b.st.length []).getD ((b.ls.getD b.st.length []).length - 1) nodeD).text.length+t.length then (b,8)
  else (⟨b.st,b.ls.set b.st.length ((b.ls.getD b.st.length []).set ((b.ls.getD b.st.length []).length - 1) (setText ((b.ls.getD b.st.length []).getD ((b.ls.getD b.st.length []).length - 1) nodeD) (((b.ls.getD b.st.length []).getD ((b.ls.getD b.st.length []).length - 1) nodeD).text++t))),b.c⟩,0)
 else putI b (.mk 2 0 [] t [] [])
def opensI (b:BI) (tk:Tokn):BI × Int :=
 let n:=stayN b.st tk.name
 let sp:=spaceN b.st tk.name n
 let r:=putI (endsI (b.st.length - n) b) (.mk 1 sp tk.name [] tk.attrs [])
 if r.2≠0 then r
 else if sp=0∧isVoidS tk.name=true∨sp≠0∧tk.self=true then (r.1,0)
 else (⟨r.1.st++[⟨tk.name,sp⟩],r.1.ls++[[]],r.1.c⟩,0)
def closesI (b:BI) (m:Str):BI:=if closN b.st m b.st.length=0 then b else endsI (b.st.length - (closN b.st m b.st.length - 1)) b
def rawI (st:List Opn):Str:=if 0 < st.length∧(st.getD (st.length - 1) opnD).space=0∧isRawS (st.getD (st.length - 1) opnD).name=true then (st.getD (st.length - 1) opnD).name else []
def takeI (b:BI) (tk:Tokn) (raw:Str):BI × Int :=
 if tk.kind=1 then wordsI b tk.text
 else if raw≠[] then (endI b,0)
 else if tk.kind=4 then putI b (.mk 3 0 [] tk.text [] [])
 else if tk.kind=2 then opensI b tk
 else if tk.kind=3 then (closesI b tk.name,0)
 else (b,0)
def opnOf (x:Node):Opn:=⟨x.name,x.space⟩
def stkR (R:List Node):List Opn:=(R.dropLast.map opnOf).reverse
def lsT:Node→List Node→List (List Node)
 | _,[]=>[]
 | x,y :: r=>(y.kids++[setKids x []]) :: lsT y r
def lsR:List Node→List (List Node)
 | []=>[]
 | x :: r=>x.kids :: lsT x r
def popR:List Node→List Node
 | x :: y :: r=>setKids y (y.kids++[x]) :: r
 | l=>l
def popsR:Nat→List Node→List Node
 | 0,R=>R
 | n+1,R=>popR (popsR n R)
def addR (x:Node):List Node→List Node
 | y :: r=>setKids y (y.kids++[x]) :: r
 | []=>[]
def asI (R:List Node) (c:Int):BI:=⟨stkR R,(lsR R).reverse,c⟩
theorem setKids_eta (x:Node):setKids x x.kids=x:=by cases x;rfl
theorem setKids_set (x:Node) (a b:List Node):setKids (setKids x a) b=setKids x b:=rfl
theorem setKids_kids (x:Node) (a:List Node):(setKids x a).kids=a:=rfl
theorem opn_setKids (x:Node) (a:List Node):opnOf (setKids x a)=opnOf x:=rfl
theorem stkR_cons (x y:Node) (r:List Node):stkR (x :: y :: r)=stkR (y :: r)++[opnOf x]:=by
 unfold stkR;rw [List.dropLast_cons_of_ne_nil (by simp),List.map_cons,List.reverse_cons]
theorem stkR_setKids (y:Node) (a:List Node) (r:List Node):stkR (setKids y a :: r)=stkR (y :: r):=by
 cases r with
 | nil=>rfl
 | cons z r=>rw [stkR_cons,stkR_cons,opn_setKids]
theorem stkR_len (y:Node) (r:List Node):(stkR (y :: r)).length=r.length:=by
 unfold stkR;rw [List.length_reverse,List.length_map,List.length_dropLast,List.length_cons];rfl
theorem lsT_setKids (y:Node) (a:List Node) (r:List Node):lsT (setKids y a) r=lsT y r:=by
 cases r<;>rfl
theorem lsT_len:∀ (x:Node) (r:List Node),(lsT x r).length=r.length
 | _,[]=>rfl
 | x,y :: r=>by rw [lsT,List.length_cons,lsT_len y r,List.length_cons]
theorem getD_rev {α:Type} (l:List α) (a d:α):(l++[a]).getD l.length d=a:=by simp [List.getD]
theorem set_rev {α:Type} (l:List α) (a b:α):(l++[a]).set l.length b=l++[b]:=by simp [List.set_append]
theorem lastK_app (l:List Node) (x:Node) (ks:List Node):lastK (l++[x]) ks=l++[setKids x ks]:=by
 unfold lastK
 rw [List.length_append,List.length_singleton,Nat.add_sub_cancel,getD_rev,set_rev]
theorem asI_end (x y:Node) (r:List Node) (c:Int):endI (asI (x :: y :: r) c)=asI (popR (x :: y :: r)) c:=by
 have hn:(stkR (x :: y :: r)).length=(lsT y r).length+1:=by rw [stkR_len,List.length_cons,lsT_len]
 have hl:(lsR (x :: y :: r)).reverse=((lsT y r).reverse++[y.kids++[setKids x []]])++[x.kids]:=by rw [lsR,lsT,List.reverse_cons,List.reverse_cons]
 have hk:((lsT y r).reverse++[y.kids++[setKids x []]]).length=(lsT y r).length+1:=by simp
 unfold endI asI
 simp only [hn,hl,Nat.add_sub_cancel]
 have e1:(stkR (x :: y :: r)).take (lsT y r).length=stkR (popR (x :: y :: r)):=by
  rw [popR,stkR_setKids,stkR_cons,List.take_append_of_le_length (by rw [stkR_len,lsT_len];exact Nat.le_refl _),List.take_of_length_le (by rw [stkR_len,lsT_len];exact Nat.le_refl _)]
 have e2:(((lsT y r).reverse++[y.kids++[setKids x []]])++[x.kids]).getD ((lsT y r).length+1) []=x.kids:=by rw [← hk];exact getD_rev _ _ _
 have e3:(((lsT y r).reverse++[y.kids++[setKids x []]])++[x.kids]).getD (lsT y r).length []=y.kids++[setKids x []]:=by
  rw [← List.length_reverse,List.append_assoc]
  simp [List.getD]
 have e4:(((lsT y r).reverse++[y.kids++[setKids x []]])++[x.kids]).take ((lsT y r).length+1)=(lsT y r).reverse++[y.kids++[setKids x []]]:=by
  rw [← hk,List.take_append_of_le_length (Nat.le_refl _),List.take_length]
 rw [e1,e2,e3,e4,lastK_app,setKids_set,setKids_eta]
 have e5:((lsT y r).reverse++[y.kids++[setKids x []]]).set (lsT y r).length (y.kids++[x])=(lsT y r).reverse++[y.kids++[x]]:=by
  rw [← List.length_reverse];exact set_rev _ _ _
 rw [e5,popR,lsR,lsT_setKids,List.reverse_cons,setKids_kids]
theorem lsR_rev (y:Node) (r:List Node):(lsR (y :: r)).reverse=(lsT y r).reverse++[y.kids]:=by rw [lsR,List.reverse_cons]
theorem asI_get (y:Node) (r:List Node) (c:Int):(asI (y :: r) c).ls.getD (asI (y :: r) c).st.length []=y.kids:=by
 unfold asI
 simp only [stkR_len,lsR_rev]
 rw [← lsT_len y r,← List.length_reverse]
 exact getD_rev _ _ _
theorem asI_set (y:Node) (r:List Node) (c:Int) (l:List Node):(asI (y :: r) c).ls.set (asI (y :: r) c).st.length l=(lsR (setKids y l :: r)).reverse:=by
 unfold asI
 simp only [stkR_len,lsR_rev,lsT_setKids,setKids_kids]
 rw [← lsT_len y r,← List.length_reverse]
 exact set_rev _ _ _
def InvR (R:List Node) (c:Int):Prop:=R≠[]∧R.length≤11∧0≤c∧c≤60∧((sumL (fun x=>x.kids.length) R+R.length:Nat):Int)≤c+1∧∀ x∈R,x.text=[]∧∀ k∈x.kids,k.text.length≤120
def putR (R:List Node) (c:Int) (x:Node):List Node × Int × Int :=
 if R.length=11 then (R,c+1,11) else if 60 < c+1 then (R,c+1,6) else if 120 < x.text.length then (R,c+1,8) else (addR x R,c+1,0)
def lastN (l:List Node):Node:=l.getD (l.length - 1) nodeD
def isTx (R:List Node):Bool:=match R with
 | y :: _=>!y.kids.isEmpty&&decide ((lastN y.kids).kind=2)
 | []=>false
def lastLen (R:List Node):Nat:=match R with
 | y :: _=>(lastN y.kids).text.length
 | []=>0
def joinR (t:Str):List Node→List Node
 | y :: r=>setKids y (y.kids.set (y.kids.length - 1) (setText (lastN y.kids) ((lastN y.kids).text++t))) :: r
 | []=>[]
def wordsR (R:List Node) (c:Int) (t:Str):List Node × Int × Int :=
 if isTx R=true then if 120 < lastLen R+t.length then (R,c,8) else (joinR t R,c,0)
 else putR R c (.mk 2 0 [] t [] [])
def opensR (R:List Node) (c:Int) (tk:Tokn):List Node × Int × Int :=
 let n:=stayN (stkR R) tk.name
 let sp:=spaceN (stkR R) tk.name n
 let r:=putR (popsR ((stkR R).length - n) R) c (.mk 1 sp tk.name [] tk.attrs [])
 if r.2.2≠0 then r
 else if sp=0∧isVoidS tk.name=true∨sp≠0∧tk.self=true then r
 else (.mk 1 sp tk.name [] tk.attrs [] :: popsR ((stkR R).length - n) R,c+1,0)
def closesR (R:List Node) (m:Str):List Node:=if closN (stkR R) m (stkR R).length=0 then R else popsR ((stkR R).length - (closN (stkR R) m (stkR R).length - 1)) R
def takeR (R:List Node) (c:Int) (tk:Tokn) (raw:Str):List Node × Int × Int :=
 if tk.kind=1 then wordsR R c tk.text
 else if raw≠[] then (popR R,c,0)
 else if tk.kind=4 then putR R c (.mk 3 0 [] tk.text [] [])
 else if tk.kind=2 then opensR R c tk
 else if tk.kind=3 then (closesR R tk.name,c,0)
 else (R,c,0)
abbrev ofR (r:List Node × Int × Int):BI × Int:=(asI r.1 r.2.1,r.2.2)
theorem putR_asI (y:Node) (r:List Node) (c:Int) (x:Node):putI (asI (y :: r) c) x=ofR (putR (y :: r) c x):=by
 have hl:(asI (y :: r) c).st.length=r.length:=stkR_len y r
 have hc:(asI (y :: r) c).c=c:=rfl
 unfold putI putR
 simp only [hl,hc,List.length_cons,Nat.reduceEqDiff]
 by_cases h1:r.length=10
 ·rw [if_pos h1,if_pos h1];rfl
 rw [if_neg h1,if_neg h1]
 by_cases h2:60 < c+1
 ·rw [if_pos h2,if_pos h2];rfl
 rw [if_neg h2,if_neg h2]
 by_cases h3:120 < x.text.length
 ·rw [if_pos h3,if_pos h3];rfl
 rw [if_neg h3,if_neg h3,← hl,asI_get,asI_set]
 unfold asI ofR
 rw [addR,asI,stkR_setKids]
theorem isTx_asI (y:Node) (r:List Node) (c:Int):(isTx (y :: r)=true)=((asI (y :: r) c).ls.getD (asI (y :: r) c).st.length []≠[]∧(((asI (y :: r) c).ls.getD (asI (y :: r) c).st.length []).getD (((asI (y :: r) c).ls.getD (asI (y :: r) c).st.length []).length - 1) nodeD).kind=2):=by
 rw [asI_get]
 unfold isTx lastN
 simp
theorem wordsR_asI (y:Node) (r:List Node) (c:Int) (t:Str):wordsI (asI (y :: r) c) t=ofR (wordsR (y :: r) c t):=by
 unfold wordsI wordsR
 rw [putR_asI]
 by_cases h:isTx (y :: r)=true
 ·rw [if_pos (isTx_asI y r c ▸ h),if_pos h,asI_get]
  show (if 120 < (lastN y.kids).text.length+t.length then _ else _)=ofR (if 120 < (lastN y.kids).text.length+t.length then _ else _)
  by_cases h2:120 < (lastN y.kids).text.length+t.length
  ·rw [if_pos h2,if_pos h2]
  ·rw [if_neg h2,if_neg h2,asI_set]
   unfold ofR joinR asI
   simp only [stkR_setKids]
   rfl
 ·rw [if_neg (isTx_asI y r c ▸ h),if_neg h]
theorem popR_len:∀ R:List Node,2≤R.length→(popR R).length=R.length - 1
 | x :: y :: r,_=>by simp [popR]
 | [_],h=>by simp at h
 | [],h=>by simp at h
theorem popsR_len:∀ (n:Nat) (R:List Node),n < R.length→(popsR n R).length=R.length - n
 | 0,R,_=>rfl
 | n+1,R,h=>by
  have ih:=popsR_len n R (by omega)
  rw [popsR,popR_len _ (by rw [ih];omega),ih];omega
theorem endsI_asI:∀ (n:Nat) (R:List Node) (c:Int),n < R.length→endsI n (asI R c)=asI (popsR n R) c
 | 0,_,_,_=>rfl
 | n+1,R,c,h=>by
  have hl:=popsR_len n R (by omega)
  rw [endsI,endsI_asI n R c (by omega),popsR]
  match hp:popsR n R,hl with
  | [],hl=>simp at hl;omega
  | [z],hl=>simp at hl;omega
  | x :: y :: r,_=>exact asI_end x y r c
theorem R_cons {R:List Node} (h:R≠[]):∃ y r,R=y :: r:=by
 cases R with
 | nil=>exact absurd rfl h
 | cons y r=>exact ⟨y,r,rfl⟩
theorem stkL {R:List Node} (h:R≠[]):(stkR R).length+1=R.length:=by
 obtain ⟨y,r,rfl⟩:=R_cons h
 rw [stkR_len];rfl
theorem popsR_ne {n:Nat} {R:List Node} (h:n < R.length):popsR n R≠[]:=fun e=>by
 have:=popsR_len n R h
 rw [e] at this;simp at this;omega
theorem opensR_asI {R:List Node} (hR:R≠[]) (c:Int) (tk:Tokn):opensI (asI R c) tk=ofR (opensR R c tk):=by
 have hs:=stkL hR
 have hn:=stayN_le (stkR R) tk.name
 have hlt:(stkR R).length - stayN (stkR R) tk.name < R.length:=by omega
 obtain ⟨y,r,hy⟩:=R_cons (popsR_ne hlt)
 unfold opensI opensR
 show (if (putI (endsI ((stkR R).length - stayN (stkR R) tk.name) (asI R c)) _).2≠0 then _ else _)=_
 rw [endsI_asI _ _ _ hlt]
 simp only [hy]
 generalize hx:Node.mk 1 (spaceN (stkR R) tk.name (stayN (stkR R) tk.name)) tk.name [] tk.attrs []=x
 have hsp:opnOf x=⟨tk.name,spaceN (stkR R) tk.name (stayN (stkR R) tk.name)⟩:=by rw [← hx];rfl
 have hk:x.kids=[]:=by rw [← hx];rfl
 have hxx:setKids x []=x:=by rw [← hx];rfl
 have hend:endsI ((stkR R).length - stayN (asI R c).st tk.name) (asI R c)=asI (y :: r) c:=by
  show endsI ((stkR R).length - stayN (stkR R) tk.name) (asI R c)=_
  rw [endsI_asI _ _ _ hlt,hy]
 have hst:(asI R c).st=stkR R:=rfl
 simp only [hst] at hend ⊢
 simp only [hend,hx,putR_asI]
 by_cases h1:(putR (y :: r) c x).2.2≠0
 ·rw [if_pos h1,if_pos h1]
 rw [if_neg h1,if_neg h1]
 have h0:(putR (y :: r) c x).2.2=0:=by simpa using h1
 by_cases h2:spaceN (stkR R) tk.name (stayN (stkR R) tk.name)=0∧isVoidS tk.name=true∨spaceN (stkR R) tk.name (stayN (stkR R) tk.name)≠0∧tk.self=true
 ·rw [if_pos h2,if_pos h2]
  show (asI _ _,(0:Int))=ofR _
  rw [← h0]
 rw [if_neg h2,if_neg h2]
 have hp:putR (y :: r) c x=(addR x (y :: r),c+1,0):=by
  unfold putR at h0 ⊢
  by_cases g1:(y :: r).length=11
  ·rw [if_pos g1] at h0;simp at h0
  rw [if_neg g1] at h0 ⊢
  by_cases g2:60 < c+1
  ·rw [if_pos g2] at h0;simp at h0
  rw [if_neg g2] at h0 ⊢
  by_cases g3:120 < x.text.length
  ·rw [if_pos g3] at h0;simp at h0
  rw [if_neg g3]
 rw [hp]
 unfold ofR asI
 simp only [addR]
 rw [stkR_setKids,lsR_rev,lsT_setKids,setKids_kids,stkR_cons,hsp]
 have:(lsR (x :: y :: r)).reverse=((lsT y r).reverse++[y.kids++[x]])++[[]]:=by
  rw [lsR,lsT,List.reverse_cons,List.reverse_cons,hk,hxx]
 rw [this]
theorem closesR_asI {R:List Node} (hR:R≠[]) (c:Int) (m:Str):closesI (asI R c) m=asI (closesR R m) c:=by
 have hs:=stkL hR
 unfold closesI closesR
 show (if closN (stkR R) m (stkR R).length=0 then asI R c else endsI ((stkR R).length - (closN (stkR R) m (stkR R).length - 1)) (asI R c))=_
 by_cases h:closN (stkR R) m (stkR R).length=0
 ·rw [if_pos h,if_pos h]
 ·rw [if_neg h,if_neg h]
  exact endsI_asI _ _ _ (by omega)
theorem takeR_asI {R:List Node} (hR:R≠[]) (c:Int) (tk:Tokn) (raw:Str) (hr:raw≠[]→2≤R.length):takeI (asI R c) tk raw=ofR (takeR R c tk raw):=by
 obtain ⟨y,r,rfl⟩:=R_cons hR
 unfold takeI takeR
 by_cases h1:tk.kind=1
 ·rw [if_pos h1,if_pos h1];exact wordsR_asI y r c _
 rw [if_neg h1,if_neg h1]
 by_cases h2:raw≠[]
 ·rw [if_pos h2,if_pos h2]
  obtain ⟨z,q,rfl⟩:∃ z q,r=z :: q:=R_cons (fun e=>by have:=hr h2;subst e;simp at this)
  rw [asI_end]
 rw [if_neg h2,if_neg h2]
 by_cases h3:tk.kind=4
 ·rw [if_pos h3,if_pos h3];exact putR_asI y r c _
 rw [if_neg h3,if_neg h3]
 by_cases h4:tk.kind=2
 ·rw [if_pos h4,if_pos h4];exact opensR_asI hR c tk
 rw [if_neg h4,if_neg h4]
 by_cases h5:tk.kind=3
 ·rw [if_pos h5,if_pos h5,closesR_asI hR]
 rw [if_neg h5,if_neg h5]
end Go.Ab
