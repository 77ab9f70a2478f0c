import Derived.Test.YtjnachnjfdgpgaaGreatDoorFnD
import Derived.Lib.ItoaNum
import Derived.Lib.AtoiTie
import Derived.Lib.AtoiAllCases
import Derived.Lib.Strings
set_option linter.all false
set_option maxRecDepth 20000
set_option maxHeartbeats 1000000
namespace Go.Ab
open Go Go.Proofs.Tryz
open Go.Lib
def dv (r:Str):Nat:=r.foldl (fun n c=>n * 10+(c.toNat - 48)) 0
theorem digitB_iff (c:UInt8):digitB c=true↔48≤c.toNat∧c.toNat≤57:=by
 unfold digitB rngB
 rw [Bool.cond_eq_true_distrib]<;>simp [UInt8.le_iff_toNat_le]
theorem dv_snoc (r:Str) (c:UInt8):dv (r++[c])=dv r * 10+(c.toNat - 48):=by simp [dv]
theorem decFrom_eq:∀ (l:Str) (acc:Nat),decFrom acc l=if l.all digitB then some (l.foldl (fun n c=>n * 10+(c.toNat - 48)) acc) else none
 | [],acc=>rfl
 | c :: r,acc=>by
  rw [decFrom,List.all_cons,List.foldl_cons]
  unfold digitVal
  by_cases h:48≤c.toNat∧c.toNat≤57
  ·rw [if_pos h,(digitB_iff c).2 h,Bool.true_and]
   simp only [decFrom_eq r]
  ·rw [if_neg h,show digitB c=false by rw [Bool.eq_false_iff];exact fun e=>h ((digitB_iff c).1 e),Bool.false_and]
   rfl
theorem decNat_eq (l:Str):decNat l=if l≠[]∧l.all digitB=true then some (dv l) else none:=by
 unfold decNat
 cases l with
 | nil=>rfl
 | cons c r =>
  rw [decFrom_eq]
  simp [dv]
theorem rev_ind {P:Str→Prop} (h0:P []) (h1:∀ r c,P r→P (r++[c])) (l:Str):P l:=by
 have:∀ n (l:Str),l.length=n→P l:=by
  intro n
  induction n with
  | zero=>intro l hl;rw [List.length_eq_zero_iff.1 hl];exact h0
  | succ n ih =>
   intro l hl
   have hne:l≠[]:=by intro e;rw [e] at hl;cases hl
   rw [← List.dropLast_concat_getLast hne]
   exact h1 _ _ (ih _ (by rw [List.length_dropLast];omega))
 exact this _ l rfl
theorem decD_step {u:Nat} (h:¬ u < 10):decDigits u=decDigits (u / 10)++[UInt8.ofNat (48+u % 10)]:=by
 rw [decDigits,dif_neg h]
theorem dv_pos {l:Str} (hd:l.all digitB=true) (h0:l.head?≠some 48) (hn:l≠[]):1≤dv l:=by
 have:∀ l:Str,l.all digitB=true→l.head?≠some 48→l≠[]→1≤dv l:=rev_ind (fun _ _ h=>absurd rfl h) fun r c ih hd h0 hn=>by
  rw [dv_snoc]
  rw [List.all_append,Bool.and_eq_true] at hd
  by_cases hr:r=[]
  ·subst hr
   have hc:digitB c=true:=by simpa using hd.2
   have:=(digitB_iff c).1 hc
   have hne:c≠48:=by intro e;subst e;exact h0 rfl
   have:c.toNat≠48:=fun e=>hne (UInt8.toNat_inj.1 e)
   omega
  ·have:=ih hd.1 (by cases r with | nil=>exact absurd rfl hr | cons x r=>simpa using h0) hr
   omega
 exact this l hd h0 hn
theorem u8_digit {c:UInt8} (h:48≤c.toNat∧c.toNat≤57):UInt8.ofNat (48+(c.toNat - 48))=c:=by
 apply UInt8.toNat_inj.1
 rw [UInt8.toNat_ofNat']
 omega
theorem decD_dv:∀ l:Str,l.all digitB=true→l≠[]→(l.head?≠some 48∨l.length=1)→decDigits (dv l)=l:=rev_ind (fun _ h=>absurd rfl h) fun r c ih hd hn h0=>by
 rw [dv_snoc]
 rw [List.all_append,Bool.and_eq_true] at hd
 have hc:=(digitB_iff c).1 (by simpa using hd.2)
 by_cases hr:r=[]
 ·subst hr
  rw [show dv []=0 from rfl,Nat.zero_mul,Nat.zero_add,decDigits_one (by omega),u8_digit hc]
  rfl
 ·have hh:r.head?≠some 48:=by
   rcases h0 with h0 | h0
   ·cases r with
    | nil=>exact absurd rfl hr
    | cons x r=>simpa using h0
   ·have:=List.length_pos_iff.2 hr
    rw [List.length_append] at h0
    simp only [List.length_cons,List.length_nil] at h0
    omega
  have hp:=dv_pos hd.1 hh hr
  rw [decD_step (by omega),show (dv r * 10+(c.toNat - 48)) / 10=dv r by omega,show (dv r * 10+(c.toNat - 48)) % 10=c.toNat - 48 by omega,u8_digit hc,ih hd.1 hr (.inl hh)]
theorem decD_all:∀ u:Nat,(decDigits u).all digitB=true∧decDigits u≠[]∧dv (decDigits u)=u∧((decDigits u).head?=some 48→u=0):=by
 intro u
 induction u using Nat.strongRecOn with
 | _ u ih =>
  have hdig:∀ d,d < 10→digitB (UInt8.ofNat (48+d))=true∧(UInt8.ofNat (48+d)).toNat=48+d:=fun d hd=>by
   have e:(UInt8.ofNat (48+d)).toNat=48+d:=by rw [UInt8.toNat_ofNat'];omega
   exact ⟨(digitB_iff _).2 (by omega),e⟩
  by_cases h:u < 10
  ·obtain ⟨h1,h2⟩:=hdig u h
   rw [decDigits_one h]
   generalize UInt8.ofNat (48+u)=x at *
   refine ⟨by simp [h1],by simp,by simp [dv];omega,fun e=>?_⟩
   have e:x=48:=by simpa using e
   rw [e] at h2
   have:(48:UInt8).toNat=48:=rfl
   omega
  ·obtain ⟨h1,h2⟩:=hdig (u % 10) (by omega)
   obtain ⟨a1,a2,a3,a4⟩:=ih (u / 10) (by omega)
   rw [decD_step h]
   generalize UInt8.ofNat (48+u % 10)=x at *
   refine ⟨by rw [List.all_append,a1];simp [h1],by simp,by rw [dv_snoc,a3,h2];omega,fun e=>?_⟩
   cases hx:decDigits (u / 10) with
   | nil=>exact absurd hx a2
   | cons x r =>
    rw [hx] at e
    have:=a4 (by rw [hx];simpa using e)
    omega
def numS (t:Str):Option Int :=
 let neg:=decide (t.head?=some 45)
 let r:=bif neg then t.drop 1 else t
 if r.length=0∨18 < r.length∨(r.head?=some 48∧(1 < r.length∨neg=true)) then none
 else if r.all digitB then some (bif neg then -(dv r:Int) else dv r) else none
def numOK (t:Str):Bool:=(numS t).isSome
def numV (t:Str):Int:=(numS t).getD 0
def atoiV (t:Str):Int:=match atoiAll t with
 | .ok v=>v
 | .range=>atoiSat t
 | _=>0
def atoiE (t:Str):Bool:=match atoiAll t with
 | .ok _=>false
 | _=>true
theorem atoiV_ok (t:Str):i64ok (atoiV t):=by
 unfold atoiV
 split
 ·rename_i v h;exact atoiAll_bounds h
 ·exact atoiSat_bounds t
 ·constructor<;>omega
theorem numS_neg (r:Str):numS (45 :: r)=if r.length=0∨18 < r.length∨r.head?=some 48 then none else if r.all digitB then some (-(dv r:Int)) else none:=by
 simp [numS]
theorem numS_pos (c:UInt8) (r:Str) (h:c≠45):numS (c :: r)=if 18 < (c :: r).length∨(c=48∧1 < (c :: r).length) then none else if (c :: r).all digitB then some (dv (c :: r):Int) else none:=by
 have e:decide ((c :: r).head?=some 45)=false:=decide_eq_false (by simpa using h)
 unfold numS
 simp only [e,cond_false]
 simp
theorem c45:(45:UInt8).toNat=45:=rfl
theorem numS_atoi {t:Str} {v:Int} (h:numS t=some v):atoiAll t=.ok v∧itoa v=t∧(trimPrefix t [45]).length≤18:=by
 cases t with
 | nil=>simp [numS] at h
 | cons c r =>
  by_cases hc:c=45
  ·subst hc
   rw [numS_neg] at h
   split at h
   ·cases h
   rename_i hn
   split at h
   ·rename_i hd
    cases h
    have hn0:r≠[]:=by rintro rfl;exact hn (.inl rfl)
    have hp:=dv_pos hd (fun e=>hn (.inr (.inr e))) hn0
    have hl:r.length≤18:=by omega
    refine ⟨?_,?_,?_⟩
    ·rw [atoiAll_minus,signed_short hl,decNat_eq,if_pos ⟨hn0,hd⟩];rfl
    ·unfold itoa
     rw [if_pos (by omega),show (-(dv r:Int)).natAbs=dv r by omega,decD_dv r hd hn0 (.inl fun e=>hn (.inr (.inr e)))]
    ·simp [trimPrefix,hasPrefix,List.isPrefixOf];exact hl
   ·cases h
  ·rw [numS_pos c r hc] at h
   split at h
   ·cases h
   rename_i hn
   split at h
   ·rename_i hd
    cases h
    have hl:(c :: r).length≤18:=by omega
    have hcd:=(digitB_iff c).1 (by rw [List.all_cons,Bool.and_eq_true] at hd;exact hd.1)
    refine ⟨?_,?_,?_⟩
    ·rw [atoiAll_plain c r (by omega) (by omega),signless_short hl,decNat_eq,if_pos ⟨by simp,hd⟩];rfl
    ·unfold itoa
     rw [if_neg (by omega),Int.toNat_natCast,decD_dv _ hd (by simp) ?_]
     by_cases h1:1 < (c :: r).length
     ·exact .inl (fun e=>hn (.inr ⟨by simpa using e,h1⟩))
     ·exact .inr (by simp only [List.length_cons] at *;omega)
    ·have:hasPrefix (c :: r) [45]=false:=by simp [hasPrefix,List.isPrefixOf,Ne.symm hc]
     rw [trimPrefix,this];simpa using hl
   ·cases h
theorem atoi_numS {t:Str} {v:Int} (h2:itoa v=t) (h3:(trimPrefix t [45]).length≤18):numS t=some v:=by
 unfold itoa at h2
 split at h2
 ·rename_i hv
  subst h2
  obtain ⟨a1,a2,a3,a4⟩:=decD_all v.natAbs
  have hl:(decDigits v.natAbs).length≤18:=by simpa [trimPrefix,hasPrefix,List.isPrefixOf] using h3
  rw [numS_neg,if_neg ?_,if_pos a1,a3]
  ·congr 1;omega
  ·rintro (e | e | e)
   ·exact a2 (List.length_eq_zero_iff.1 e)
   ·omega
   ·have:=a4 e;omega
 ·rename_i hv
  subst h2
  obtain ⟨a1,a2,a3,a4⟩:=decD_all v.toNat
  cases hx:decDigits v.toNat with
  | nil=>exact absurd hx a2
  | cons c r =>
   rw [hx] at h3 a1 a3 a4
   have hcd:=(digitB_iff c).1 (by rw [List.all_cons,Bool.and_eq_true] at a1;exact a1.1)
   have hc:c≠45:=by rintro rfl;rw [c45] at hcd;omega
   have hp:hasPrefix (c :: r) [45]=false:=by simp [hasPrefix,List.isPrefixOf,Ne.symm hc]
   rw [trimPrefix,hp] at h3
   have h3:(c :: r).length≤18:=by simpa using h3
   rw [numS_pos c r hc,if_neg ?_,if_pos a1,a3]
   ·congr 1;omega
   ·rintro (e | ⟨e,e2⟩)
    ·omega
    ·have h0:=a4 (by rw [e];rfl)
     rw [h0,decDigits_one (by omega)] at hx
     cases hx
     simp at e2
theorem numOK_eq (t:Str):numOK t=(!atoiE t&&decide (itoa (atoiV t)=t)&&decide ((trimPrefix t [45]).length≤18)):=by
 cases hn:numS t with
 | some v =>
  obtain ⟨h1,h2,h3⟩:=numS_atoi hn
  have e1:atoiE t=false:=by unfold atoiE;rw [h1]
  have e2:atoiV t=v:=by unfold atoiV;rw [h1]
  unfold numOK
  rw [hn,e1,e2,h2,decide_eq_true h3]
  simp
 | none =>
  unfold numOK
  rw [hn]
  cases hE:atoiE t with
  | true=>rfl
  | false =>
   cases h2:decide (itoa (atoiV t)=t) with
   | false=>rfl
   | true =>
    cases h3:decide ((trimPrefix t [45]).length≤18) with
    | false=>rfl
    | true =>
     have:=atoi_numS (of_decide_eq_true h2) (of_decide_eq_true h3)
     rw [hn] at this;cases this
theorem atoiV_num {t:Str} (h:numOK t=true):atoiV t=numV t:=by
 unfold numOK at h
 cases hn:numS t with
 | none=>rw [hn] at h;cases h
 | some v =>
  obtain ⟨h1,_⟩:=numS_atoi hn
  unfold atoiV numV
  rw [h1,hn];rfl
end Go.Ab
