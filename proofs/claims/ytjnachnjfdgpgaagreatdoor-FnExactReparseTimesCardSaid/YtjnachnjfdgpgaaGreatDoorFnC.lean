import Derived.Test.YtjnachnjfdgpgaaGreatDoorFnA
set_option linter.all false
set_option maxRecDepth 20000
set_option maxHeartbeats 1000000
namespace Go.Ab
open Go Go.Proofs.Tryz
def szR (k:Nat) (n:Int):Int:=if n - k < 0 then -1 else n - k
theorem szR_neg {a:Nat} {n:Int} (b:Nat) (h0:0≤n) (h:n - a < 0):szR (a+b) n=-1:=by
 unfold szR;rw [if_pos (by omega)]
theorem szR_lt {a:Nat} {n:Int} (h0:0≤n):(szR a n < 0↔n - a < 0):=by unfold szR;split<;>omega
theorem szR_le {a:Nat} {n:Int} (h:¬ szR a n < 0) (h0:0≤n):0≤szR a n∧szR a n≤n∧szR a n=n - a∧(a:Int)≤n:=by unfold szR at *;split at h<;>(try rw [if_neg (by assumption)])<;>omega
def sumL {α:Type} (f:α→Nat) (l:List α):Nat:=(l.map f).sum
theorem sumL_take {α:Type} (f:α→Nat) (l:List α) (d:α) {k:Nat} (h:k < l.length):sumL f (l.take (k+1))=sumL f (l.take k)+f (l.getD k d):=by
 unfold sumL;rw [List.take_succ_eq_append_getElem h,List.map_append,List.sum_append];simp [List.getD,h]
theorem sumL_take_le {α:Type} (f:α→Nat) (l:List α) (k:Nat):sumL f (l.take k)≤sumL f l:=by
 unfold sumL
 conv=>rhs;rw [← List.take_append_drop k l,List.map_append,List.sum_append]
 omega
abbrev mxN:Nat:=9223372036854775807
abbrev fitStr (s:Str):Prop:=s.length≤9223372036854775807
def fitL {α:Type} (P:α→Prop) (l:List α):Prop:=l.length≤mxN∧∀ x∈l,P x
def szL {α:Type} (f:α→Nat) (l:List α):Nat:=l.length+sumL f l
theorem szL_len {α:Type} (f:α→Nat) (l:List α):l.length≤szL f l:=Nat.le_add_right _ _
theorem sumL_mem {α:Type} (f:α→Nat) {l:List α} {x:α} (h:x∈l):f x≤sumL f l:=by
 induction l with
 | nil=>cases h
 | cons y l ih =>
  have e:sumL f (y :: l)=f y+sumL f l:=by simp [sumL]
  cases h with
  | head=>omega
  | tail _ h=>have:=ih h;omega
theorem szL_mem {α:Type} (f:α→Nat) {l:List α} {x:α} (h:x∈l):f x≤szL f l:=by have:=sumL_mem f h;unfold szL;omega
theorem fit_at {α:Type} {P:α→Prop} {l:List α} {d:α} (h:∀ x∈l,P x) {k:Nat} (hk:k < l.length):P (l.getD k d):=by
 have:l.getD k d=l[k]:=by simp [List.getD,hk]
 rw [this];exact h _ (List.getElem_mem hk)
theorem gd_nat {α:Type} (l:List α) (d:α) (k:Nat):gd l d (k:Int)=l.getD k d:=by simp [gd]
theorem szL_at {α:Type} (f:α→Nat) {l:List α} (d:α) {k:Nat} (h:k < l.length):f (l.getD k d)≤szL f l:=by
 have e:l.getD k d=l[k]:=by simp [List.getD,h]
 rw [e];exact szL_mem f (List.getElem_mem h)
theorem szR_m1 {n:Int} {c:Nat} (h:n - c < 0):-1=szR c n:=by unfold szR;rw [if_pos h]
def fillL {α:Type} (l:List α) (d:α) (k:Nat):List α:=l.take k++List.replicate (l.length - k) d
theorem fillL_0 {α:Type} (l:List α) (d:α):fillL l d 0=List.replicate l.length d:=by simp [fillL]
theorem fillL_all {α:Type} (l:List α) (d:α):fillL l d l.length=l:=by simp [fillL]
theorem fillL_len {α:Type} (l:List α) (d:α) (k:Nat) (h:k≤l.length):(fillL l d k).length=l.length:=by simp [fillL];omega
theorem fillL_set {α:Type} (l:List α) (d:α) {k:Nat} (h:k < l.length):(fillL l d k).set k (l.getD k d)=fillL l d (k+1):=by
 unfold fillL
 rw [List.take_succ_eq_append_getElem h,List.set_append_right _ _ (by simp;omega)]
 have e:l.length - k=(l.length - (k+1))+1:=by omega
 have e2:k - (l.take k).length=0:=by simp;omega
 rw [e,List.replicate_succ,e2,List.set_cons_zero,List.append_assoc]
 simp [List.getD,h]
open Classical in
noncomputable def eqB {α:Type} (a b:α):Bool:=decide (a=b)
theorem eqB_self {α:Type} (a:α):eqB a a=true:=by simp [eqB]
theorem eqB_of {α:Type} {a b:α} (h:a=b):eqB a b=true:=by simp [eqB,h]
theorem eqB_ne {α:Type} {a b:α} (h:a≠b):eqB a b=false:=by simp [eqB,h]
theorem eqB_true {α:Type} {a b:α} (h:eqB a b=true):a=b:=by simpa [eqB] using h
theorem eqB_not {α:Type} {a b:α} (h:(!eqB a b)=false):a=b:=by apply eqB_true;simpa using h
theorem eqB_yes {α:Type} {a b:α} (h:(!eqB a b)=true):a≠b:=by intro e;rw [eqB_of e] at h;cases h
theorem list_eq {α:Type} {a b:List α} (d:α) (hl:a.length=b.length) (h:∀ j < a.length,a.getD j d=b.getD j d):a=b:=by
 apply List.ext_getElem hl
 intro j h1 h2
 have:=h j h1
 simpa [List.getD,h1,h2] using this
@[push_cast] theorem eta_rule (r:Rule):(⟨r.space,r.name,r.attrs⟩:Rule)=r:=rfl
theorem len_le {α:Type} {l:List α} {n:Nat}:decide ((l.length:Int)≤(n:Int))=decide (l.length≤n):=decide_eq_decide.2 (by omega)
theorem len_gt {α:Type} {l:List α} {n:Nat}:decide ((n:Int) < (l.length:Int))=!decide (l.length≤n):=by
 by_cases h:l.length≤n
 ·rw [decide_eq_true h,decide_eq_false (by omega)];rfl
 ·rw [decide_eq_false h,decide_eq_true (by omega)];rfl
theorem len_e {α:Type} {l:List α}:decide ((l.length:Int)=0)=l.isEmpty:=by
 cases l with
 | nil=>rfl
 | cons x l=>exact decide_eq_false (by simp only [List.length_cons];omega)
theorem len_pe {α:Type} {l:List α}:decide ((0:Int) < l.length)=!l.isEmpty:=by
 cases l with
 | nil=>rfl
 | cons x l=>exact decide_eq_true (by simp only [List.length_cons];omega)
end Go.Ab
