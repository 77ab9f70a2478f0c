import Derived.Test.YtjnachnjfdgpgaaGreatDoorFnSz
import Derived.Test.YtjnachnjfdgpgaaGreatDoorFnBf
import Derived.Test.YtjnachnjfdgpgaaGreatDoorFnAk
set_option linter.all false
set_option maxRecDepth 20000
set_option maxHeartbeats 1000000
namespace Go.Ab
open Go Go.Proofs.Tryz
def KR:List Node→Prop
 | []=>True
 | [x]=>kdNds x.kids
 | x :: y :: r=>kdNd x∧KR (y :: r)
theorem kdNds_app {a b:List Node} (ha:kdNds a) (hb:kdNds b):kdNds (a++b):=kdNds_mem.2 fun x hx=>by
 rcases List.mem_append.1 hx with h | h
 ·exact kdNds_mem.1 ha x h
 ·exact kdNds_mem.1 hb x h
theorem KR_kids {x:Node}:∀ {r:List Node},KR (x :: r)→kdNds x.kids
 | [],h=>h
 | _ :: _,h=>((kdNd_eq x).1 h.1).2
theorem KR_set {x:Node} {ks:List Node} (hk:kdNds ks):∀ {r:List Node},KR (x :: r)→KR (setKids x ks :: r)
 | [],_=>hk
 | _ :: _,h=>⟨(kdNd_eq _).2 ⟨((kdNd_eq x).1 h.1).1,hk⟩,h.2⟩
theorem KR_push {x:Node} (hx:kdNd x):∀ {r:List Node},KR r→KR (x :: r)
 | [],_=>((kdNd_eq x).1 hx).2
 | _ :: _,h=>⟨hx,h⟩
theorem KR_pop:∀ {R:List Node},KR R→KR (popR R)
 | [],h=>h
 | [_],h=>h
 | x :: y :: r,h=>KR_set (kdNds_app (KR_kids h.2) (b:=[x]) ⟨h.1,trivial⟩) h.2
theorem KR_pops:∀ {n:Nat} {R:List Node},KR R→KR (popsR n R)
 | 0,_,h=>h
 | _+1,_,h=>KR_pop (KR_pops h)
theorem KR_add {x:Node} (hx:kdNd x):∀ {R:List Node},KR R→KR (addR x R)
 | [],h=>h
 | _ :: _,h=>KR_set (kdNds_app (KR_kids h) (b:=[x]) ⟨hx,trivial⟩) h
theorem KR_put {R:List Node} {c:Int} {x:Node} (hx:kdNd x) (h:KR R):KR (putR R c x).1:=by
 unfold putR
 by_cases h1:R.length=11
 ·rw [if_pos h1];exact h
 rw [if_neg h1]
 by_cases h2:60 < c+1
 ·rw [if_pos h2];exact h
 rw [if_neg h2]
 by_cases h3:120 < x.text.length
 ·rw [if_pos h3];exact h
 rw [if_neg h3];exact KR_add hx h
theorem kdNd_leaf (k s:Int) (m t:Str) (a:List Attr) (h:k=1∨k=2∨k=3):kdNd (.mk k s m t a []):=⟨h,trivial⟩
theorem KR_join (t:Str):∀ {R:List Node},isTx R=true→KR R→KR (joinR t R)
 | [],h,_=>by cases h
 | y :: r,h,hR=>by
  refine KR_set (kdNds_mem.2 fun x hx=>?_) hR
  have hk:=kdNds_mem.1 (KR_kids hR)
  rcases List.mem_or_eq_of_mem_set hx with hx | rfl
  ·exact hk x hx
  ·unfold isTx at h
   simp only [Bool.and_eq_true,Bool.not_eq_true',decide_eq_true_eq] at h
   have hl:0 < y.kids.length:=by
    cases he:y.kids with
    | nil=>rw [he] at h;cases h.1
    | cons=>exact Nat.succ_pos _
   have hm:=(kdNd_eq _).1 (kdNds_at (KR_kids hR) (i:=y.kids.length - 1) (by omega))
   exact (kdNd_eq _).2 ⟨hm.1,hm.2⟩
theorem KR_words {R:List Node} {c:Int} {t:Str} (h:KR R):KR (wordsR R c t).1:=by
 unfold wordsR
 by_cases h1:isTx R=true
 ·rw [if_pos h1]
  by_cases h2:120 < lastLen R+t.length
  ·rw [if_pos h2];exact h
  ·rw [if_neg h2];exact KR_join t h1 h
 ·rw [if_neg h1];exact KR_put (kdNd_leaf _ _ _ _ _ (.inr (.inl rfl))) h
theorem KR_opens {R:List Node} {c:Int} {tk:Tokn} (h:KR R):KR (opensR R c tk).1:=by
 have hp:∀ sp n,KR (putR (popsR n R) c (.mk 1 sp tk.name [] tk.attrs [])).1:=fun sp n=>KR_put (kdNd_leaf _ _ _ _ _ (.inl rfl)) (KR_pops h)
 unfold opensR
 simp only
 split
 ·exact hp _ _
 ·split
  ·exact hp _ _
  ·exact KR_push (kdNd_leaf _ _ _ _ _ (.inl rfl)) (KR_pops h)
theorem KR_closes {R:List Node} {m:Str} (h:KR R):KR (closesR R m):=by
 unfold closesR
 split
 ·exact h
 ·exact KR_pops h
theorem KR_take {R:List Node} {c:Int} {tk:Tokn} {raw:Str} (h:KR R):KR (takeR R c tk raw).1:=by
 unfold takeR
 by_cases h1:tk.kind=1
 ·rw [if_pos h1];exact KR_words h
 rw [if_neg h1]
 by_cases h2:raw≠[]
 ·rw [if_pos h2];exact KR_pop h
 rw [if_neg h2]
 by_cases h3:tk.kind=4
 ·rw [if_pos h3];exact KR_put (kdNd_leaf _ _ _ _ _ (.inr (.inr rfl))) h
 rw [if_neg h3]
 by_cases h4:tk.kind=2
 ·rw [if_pos h4];exact KR_opens h
 rw [if_neg h4]
 by_cases h5:tk.kind=3
 ·rw [if_pos h5];exact KR_closes h
 rw [if_neg h5];exact h
theorem KR_run (t:Str):∀ (f i:Nat) (R:List Node) (c:Int),KR R→KR (runR t f i R c).1
 | 0,_,_,_,h=>h
 | f+1,i,R,c,h=>by
  rw [runR]
  by_cases hi:i < t.length
  ·rw [if_pos hi]
   by_cases h1:(takeR R c (nextS t i (rawI (stkR R))) (rawI (stkR R))).2.2≠0
   ·rw [if_pos h1];exact KR_take h
   ·rw [if_neg h1];exact KR_run t f _ _ _ (KR_take h)
  ·rw [if_neg hi];exact h
theorem build_kd (t:Str):kdNds (buildR t).1:=by
 unfold buildR
 by_cases h:(runR t (t.length+1) 0 R0 0).2.2≠0
 ·rw [if_pos h];trivial
 rw [if_neg h]
 have hk:=KR_pops (n:=(runR t (t.length+1) 0 R0 0).1.length - 1) (KR_run t (t.length+1) 0 R0 0 (show KR R0 from trivial))
 generalize popsR ((runR t (t.length+1) 0 R0 0).1.length - 1) (runR t (t.length+1) 0 R0 0).1=U at *
 cases U with
 | nil=>exact (trivial:kdNds [])
 | cons y r=>exact KR_kids hk
theorem buildP_kd (t:Str):kdNds (buildP t).1:=by
 unfold buildP
 split
 ·trivial
 ·exact build_kd t
theorem ownNd_kd {x:Node} (h:ownNd x=true):x.kind=1∨x.kind=2∨x.kind=3:=by
 simp only [ownNd,Bool.or_eq_true,Bool.and_eq_true,decide_eq_true_eq] at h
 rcases h with h | h
 ·exact .inl h.1
 ·exact .inr h.1
mutual
theorem goodNd_kd:∀ (x:Node) (d:Int),goodNd x d=true→kdNd x
 | .mk k s m t a ks,d,h=>by
  rw [goodNd] at h
  simp only [Bool.and_eq_true] at h
  exact ⟨ownNd_kd h.1.2.1,goodNds_kd ks (d+1) h.2⟩
theorem goodNds_kd:∀ (l:List Node) (d:Int),goodNds l d=true→kdNds l
 | [],_,_=>trivial
 | x :: r,d,h=>by
  rw [goodNds,Bool.and_eq_true] at h
  exact ⟨goodNd_kd x d h.1,goodNds_kd r d h.2⟩
end
theorem askT_kd {l:List Node} (h:askT l=0):kdNds l:=goodNds_kd l 1 (treeOK_good (askT_0 h).2).1
end Go.Ab
