import Derived.Test.YtjnachnjfdgpgaaGreatDoorEng3
import Derived.ProofKit
import Derived.OpenShut
import Derived.Carry
import Derived.Lib.Join
import Derived.Laws.IdiomCopy
import Derived.Sort.Row
import Derived.Sort.Grow
import Derived.Sort.EncStr
set_option linter.all false
namespace Go.Ab
open Go
variable [GI]
structure CRow (P:Program) (ety:K→TypeId) (f:FuncId) (sp:Spec):Prop where
 ok:FnOk P ety f sp
 ent:∀ args w,(callFunc f args).run P w=.ok (.enter f args) w
def calOf:List (FuncId × Spec)→FuncId→Option Spec
 | [],_=>none
 | (f,sp) :: l,g=>if f=g then some sp else calOf l g
theorem calOf_nil (g:FuncId):calOf [] g=none:=rfl
theorem calOf_cons (f:FuncId) (sp:Spec) (l:List (FuncId × Spec)) (g:FuncId):calOf ((f,sp) :: l) g=if f=g then some sp else calOf l g:=rfl
inductive Rows (P:Program) (ety:K→TypeId):List (FuncId × Spec)→Prop
 | nil:Rows P ety []
 | cons {f sp l} (h:CRow P ety f sp) (t:Rows P ety l):Rows P ety ((f,sp) :: l)
theorem Rows.get {P:Program} {ety:K→TypeId} {l:List (FuncId × Spec)} (h:Rows P ety l):∀ f sp,calOf l f=some sp→CRow P ety f sp:=by
 induction h with
 | nil=>intro f sp h;cases h
 | @cons f sp l h t ih =>
  intro g sp' hg
  rw [calOf_cons] at hg
  split at hg
  ·rename_i e
   cases hg
   subst e
   exact h
  ·exact ih g sp' hg
theorem EnvOk.of {P:Program} {td:TypeId→TD} {ety:K→TypeId} {l:List (FuncId × Spec)} (hm:P.follows .mixedOrders=true) (ht:∀ (E:Env) t,TDok P E t (td t)) (h:Rows P ety l) (dr:Nat→Option (List Nat × List Alt)) (eqt:TypeId→Bool) (hq:∀ t,eqt t=true→EqS P (td t) t) (gh:Nat→List Gho)
  (inl:FuncId→Option Inl) (hi:∀ f i,inl f=some i→InlOk P f i) (fnd:FuncId→Bool) (hf:∀ f,fnd f=true→FindOk P f) (htg:∀ t k,td t=.sl k→∀ e,P.underlying t=some (.slice e)→ety k=0∨e=ety k):EnvOk P ⟨td,ety,calOf l,dr,eqt,gh,inl,fnd⟩ :=
 ⟨hq,hm,fun t=>ht _ t,fun f sp hf=>(h.get f sp hf).ok,fun f sp hf=>(h.get f sp hf).ent,hi,hf,htg⟩
theorem eqS_of {P:Program} {t:TypeId} {f1 f2:Field} (ht:P.underlying t=some (.struct (P.fieldsOf t))) (hp:P.stoodInHeld t=false) (hg:P.eqGuardType P.depth t=false) (hf:(P.fieldsOf t).toList=[f1,f2]) (n1:(f1.name != "_")=true) (n2:(f2.name != "_")=true)
  (o1:f1.offset=0) (o2:f2.offset=1) (u1:P.underlying f1.type=some .string) (u2:P.underlying f2.type=some .string) (k1:P.plainKey f1.type=true) (k2:P.plainKey f2.type=true):EqS2 P t:=by
 intro a b c d w
 refine ⟨hg,?_⟩
 have n1':f1.name≠"_":=by simpa using n1
 have n2':f2.name≠"_":=by simpa using n2
 have p1:∀ x y:Str,(Go.part f1.type #[sv x,sv y] f1.offset).run P w=.ok (sv x) w:=fun x y=>run_part_plain w k1 (by rw [o1];rfl)
 have p2:∀ x y:Str,(Go.part f2.type #[sv x,sv y] f2.offset).run P w=.ok (sv y) w:=fun x y=>run_part_plain w k2 (by rw [o2];rfl)
 have q:∀ (f:Field) (x y:Str),P.underlying f.type=some .string→(Op.equalIn 9999 f.type (sv x) (sv y)).run P w=.ok (decide (x=y)) w:=fun f x y hu=>by
  rw [run_equalIn_string w 9998 f.type _ _ hu,ByteArray.toList_eq,ByteArray.toList_eq]
  congr 1
  by_cases h:x=y
  ·subst h;simp
  ·rw [decide_eq_false h];simpa using h
 rw [run_equalIn_struct w 9999 t _ _ ht hp,hf]
 simp only [Op.eqFields,n1',n2',ne_eq,not_false_eq_true,if_true,Sem.run_bind,p1,p2,q f1 a c u1,q f2 b d u2,Result.andThen_ok]
 by_cases h1:a=c
 ·by_cases h2:b=d
  ·simp [h1,h2,Sem.run_bind,p2,q f2 _ _ u2]
  ·simp [h1,h2,Sem.run_bind,p2,q f2 _ _ u2]
 ·simp [h1]
def isStrT (P:Program) (t:TypeId):Bool:=match P.underlying t with
 | some .string=>true
 | _=>false
def eqOkB (P:Program) (t:TypeId):Bool:=!P.stoodInHeld t&&!P.eqGuardType P.depth t&&match P.underlying t with
 | some (.struct fs)=>match fs.toList with
  | [f1,f2]=>f1.name != "_"&&f2.name != "_"&&f1.offset == 0&&f2.offset == 1&&isStrT P f1.type&&isStrT P f2.type
  | _=>false
 | _=>false
theorem isStrT_of {P:Program} {t:TypeId} (h:isStrT P t=true):P.underlying t=some .string:=by
 unfold isStrT at h
 split at h
 ·assumption
 ·cases h
theorem eqS_ofB {P:Program} {t:TypeId} (h:eqOkB P t=true):EqS2 P t:=by
 unfold eqOkB at h
 simp only [Bool.and_eq_true,Bool.not_eq_true'] at h
 obtain ⟨⟨h1,h2⟩,h3⟩:=h
 split at h3
 ·rename_i fs hu
  split at h3
  ·rename_i f1 f2 hf
   simp only [Bool.and_eq_true,beq_iff_eq] at h3
   obtain ⟨⟨⟨⟨⟨n1,n2⟩,o1⟩,o2⟩,s1⟩,s2⟩:=h3
   have hfs:P.fieldsOf t=fs:=by unfold Program.fieldsOf;rw [hu]
   have u1:=isStrT_of s1
   have u2:=isStrT_of s2
   exact eqS_of (f1:=f1) (f2:=f2) (by rw [hfs];exact hu) h1 h2 (by rw [hfs];exact hf) n1 n2 o1 o2 u1 u2 (by unfold Program.plainKey;rw [u1]) (by unfold Program.plainKey;rw [u2])
  ·cases h3
 ·cases h3
def isI64T (P:Program) (t:TypeId):Bool:=match P.underlying t with
 | some (.int .i64)=>true
 | _=>false
def eqOkI (P:Program) (t:TypeId):Bool:=!P.stoodInHeld t&&!P.eqGuardType P.depth t&&match P.underlying t with
 | some (.struct fs)=>match fs.toList with
  | [f1,f2]=>f1.name != "_"&&f2.name != "_"&&f1.offset == 0&&f2.offset == 1&&isStrT P f1.type&&isI64T P f2.type
  | _=>false
 | _=>false
theorem eqI_ofB {P:Program} {t:TypeId} (h:eqOkI P t=true):EqI P t:=by
 unfold eqOkI at h
 simp only [Bool.and_eq_true,Bool.not_eq_true'] at h
 obtain ⟨⟨hp,hg⟩,h3⟩:=h
 split at h3
 ·rename_i fs hu
  split at h3
  ·rename_i f1 f2 hf
   simp only [Bool.and_eq_true,beq_iff_eq,bne_iff_ne,ne_eq] at h3
   obtain ⟨⟨⟨⟨⟨n1,n2⟩,o1⟩,o2⟩,s1⟩,s2⟩:=h3
   have hfs:P.fieldsOf t=fs:=by unfold Program.fieldsOf;rw [hu]
   have u1:=isStrT_of s1
   have u2:P.underlying f2.type=some (.int .i64):=by
    unfold isI64T at s2
    split at s2
    ·assumption
    ·cases s2
   have k1:P.plainKey f1.type=true:=by unfold Program.plainKey;rw [u1]
   have k2:P.plainKey f2.type=true:=by unfold Program.plainKey;rw [u2]
   intro a c b d w
   refine ⟨hg,?_⟩
   have p1:∀ (x:Str) (y:Int),(Go.part f1.type #[sv x,.int .i64 y] f1.offset).run P w=.ok (sv x) w:=fun x y=>run_part_plain w k1 (by rw [o1];rfl)
   have p2:∀ (x:Str) (y:Int),(Go.part f2.type #[sv x,.int .i64 y] f2.offset).run P w=.ok (.int .i64 y) w:=fun x y=>run_part_plain w k2 (by rw [o2];rfl)
   have q1:∀ x y:Str,(Op.equalIn 9999 f1.type (sv x) (sv y)).run P w=.ok (decide (x=y)) w:=fun x y=>by
    rw [run_equalIn_string w 9998 f1.type _ _ u1,ByteArray.toList_eq,ByteArray.toList_eq]
    congr 1
    by_cases h:x=y
    ·subst h;simp
    ·rw [decide_eq_false h];simpa using h
   have q2:∀ x y:Int,(Op.equalIn 9999 f2.type (.int .i64 x) (.int .i64 y)).run P w=.ok (decide (x=y)) w:=fun x y=>by
    rw [run_equalIn_int w 9998 f2.type .i64 .i64 x y u2]
    congr 1
   rw [run_equalIn_struct w 9999 t _ _ (show P.underlying t=some (.struct (P.fieldsOf t)) by rw [hfs];exact hu) hp,hfs,hf]
   simp only [Op.eqFields,n1,n2,ne_eq,not_false_eq_true,if_true,Sem.run_bind,p1,p2,q1,q2,Result.andThen_ok]
   by_cases h1:a=c
   ·by_cases h2:b=d
    ·simp [h1,h2,Sem.run_bind,p2,q2]
    ·simp [h1,h2,Sem.run_bind,p2,q2]
   ·simp [h1]
  ·cases h3
 ·cases h3
theorem ent_of {P:Program} {f:FuncId} {fn:Func} (hf:P.funcs[f]?=some fn) (hn:(fn.name == "runtime.NumGoroutine")=false) (hb:fn.body.isNone=false) (args:Array Value) (w:World):(callFunc f args).run P w=.ok (.enter f args) w:=by
 simp only [callFunc,program,Sem.run_bind]
 show (Result.ok P w).andThen _=_
 simp only [Result.andThen_ok,hf,hn,hb]
 rfl
theorem CRow.of {P:Program} {E:Env} (hE:EnvOk P E) {f:FuncId} {fn:Func} {sp:Spec} {c:Code} (hf:P.funcs[f]?=some fn) (hn:(fn.name == "runtime.NumGoroutine")=false) (hb:fn.body=some c) (hs:(okC c&&(wr c).all fun d=>decide (d < fn.ntmps))=true)
  (h:∀ args p r outs,sp.run args=some (p,r,outs)→(∀ q,p=some q→q)→Body E fn sp.modes args fun r' outs'=>r'=r∧outs'=outs):CRow P E.ety f sp :=
 ⟨fnOk_of_body hE hf hb hs h,ent_of hf hn (by rw [hb];rfl)⟩
def inlF:List (FuncId × Inl)→FuncId→Option Inl
 | [],_=>none
 | (f,i) :: l,g=>if f=g then some i else inlF l g
theorem inlF_nil (g:FuncId):inlF [] g=none:=rfl
theorem inlF_cons (f:FuncId) (i:Inl) (l:List (FuncId × Inl)) (g:FuncId):inlF ((f,i) :: l) g=if f=g then some i else inlF l g:=rfl
inductive Inls (P:Program):List (FuncId × Inl)→Prop
 | nil:Inls P []
 | cons {f i l} (h:InlOk P f i) (t:Inls P l):Inls P ((f,i) :: l)
theorem Inls.get {P:Program} {l:List (FuncId × Inl)} (h:Inls P l):∀ f i,inlF l f=some i→InlOk P f i:=by
 induction h with
 | nil=>intro f i h;cases h
 | @cons f i l h t ih =>
  intro g j hg
  rw [inlF_cons] at hg
  split at hg
  ·rename_i e
   cases hg
   subst e
   exact h
  ·exact ih g j hg
def fndF:Option FuncId→FuncId→Bool
 | none,_=>false
 | some f,g=>decide (f=g)
theorem fndF_none (g:FuncId):fndF none g=false:=rfl
theorem fndF_some (f g:FuncId):fndF (some f) g=decide (f=g):=rfl
inductive Fnds (P:Program):Option FuncId→Prop
 | nil:Fnds P none
 | one {f} (h:FindOk P f):Fnds P (some f)
theorem Fnds.get {P:Program} {o:Option FuncId} (h:Fnds P o):∀ f,fndF o f=true→FindOk P f:=by
 cases h with
 | nil=>intro f h;cases h
 | one h=>intro g hg;have:=of_decide_eq_true hg;subst this;exact h
theorem InlOk.of {P:Program} {f:FuncId} {fn:Func} {i:Inl} (hf:P.funcs[f]?=some fn) (hn:(fn.name == "runtime.NumGoroutine")=false) (hb:fn.body=some i.c) (hr:fn.results.toList=i.rs) (hs:(okC i.c&&(wr i.c).all fun d=>decide (d < fn.ntmps))=true):InlOk P f i :=
 ⟨ent_of hf hn (by rw [hb];rfl),fn,hf,hb,hr,hs⟩
def drOf:List (Nat × List Nat × List Alt)→Nat→Option (List Nat × List Alt)
 | [],_=>none
 | (i,hs,iv) :: l,j=>if i=j then some (hs,iv) else drOf l j
theorem drOf_nil (j:Nat):drOf [] j=none:=rfl
theorem drOf_cons (i:Nat) (hs:List Nat) (iv:List Alt) (l:List (Nat × List Nat × List Alt)) (j:Nat):drOf ((i,hs,iv) :: l) j=if i=j then some (hs,iv) else drOf l j:=rfl
def ghOf:List (Nat × List Gho)→Nat→List Gho
 | [],_=>[]
 | (i,g) :: l,j=>if i=j then g else ghOf l j
theorem ghOf_nil (j:Nat):ghOf [] j=[]:=rfl
theorem ghOf_cons (i:Nat) (g:List Gho) (l:List (Nat × List Gho)) (j:Nat):ghOf ((i,g) :: l) j=if i=j then g else ghOf l j:=rfl
theorem self_and (p q:Prop):(p→p∧q)=(p→q):=propext ⟨fun h hp=>(h hp).2,fun h hp=>⟨hp,h hp⟩⟩
theorem imp_two (p q:Prop):(p→q→p∧q)=True:=propext ⟨fun _=>trivial,fun _ hp hq=>⟨hp,hq⟩⟩
attribute [push_cast] inlF_nil inlF_cons fndF_none fndF_some
attribute [push_cast] self_and imp_two Bool.and_eq_true Option.toArray_none Option.toArray_some drOf_nil drOf_cons ghOf_nil ghOf_cons calOf_nil calOf_cons
def qW (q:Option Prop):Option (Option Prop × AV × Hp × Nat)→Option (Option Prop × AV × Hp × Nat)
 | some (p,v,hp,nx)=>some (cjo q p,v,hp,nx)
 | none=>none
theorem qW_some (q p v hp nx):qW q (some (p,v,hp,nx))=some (cjo q p,v,hp,nx):=rfl
theorem qW_none (q):qW q none=none:=rfl
section
variable (E:Env) (e:Operand→AV) (q:Option Prop) (fr:Fr) (hp:Hp) (nx:Nat) (d:Option Tmp) (t:TypeId) (ps:String) (af:Array Edge)
theorem stepW_alloc (ty:TypeId):stepW E ⟨d,.alloc ty,t,ps,af,none⟩ e q ⟨fr,hp,nx⟩=qW q (stepH E ⟨d,.alloc ty,t,ps,af,none⟩ e hp nx):=by
 show (match stepH E ⟨d,.alloc ty,t,ps,af,none⟩ e hp nx with | some (p,v,hp,nx)=>some (cjo q p,v,hp,nx) | none=>none)=_
 cases stepH E ⟨d,.alloc ty,t,ps,af,none⟩ e hp nx<;>rfl
theorem stepW_box (ty:TypeId) (x:Operand):stepW E ⟨d,.box ty x,t,ps,af,none⟩ e q ⟨fr,hp,nx⟩=qW q (stepH E ⟨d,.box ty x,t,ps,af,none⟩ e hp nx):=by
 show (match stepH E ⟨d,.box ty x,t,ps,af,none⟩ e hp nx with | some (p,v,hp,nx)=>some (cjo q p,v,hp,nx) | none=>none)=_
 cases stepH E ⟨d,.box ty x,t,ps,af,none⟩ e hp nx<;>rfl
theorem stepW_buildSlice (ty:TypeId) (len:Nat) (parts:Array (Nat × Operand)):stepW E ⟨d,.buildSlice ty len parts,t,ps,af,none⟩ e q ⟨fr,hp,nx⟩=qW q (orH (stepP E ⟨d,.buildSlice ty len parts,t,ps,af,none⟩ e hp) hp nx (stepH E ⟨d,.buildSlice ty len parts,t,ps,af,none⟩ e hp nx)):=by
 unfold stepW
 cases stepP E ⟨d,.buildSlice ty len parts,t,ps,af,none⟩ e hp with
 | some r=>rfl
 | none=>cases stepH E ⟨d,.buildSlice ty len parts,t,ps,af,none⟩ e hp nx<;>rfl
theorem stepW_makeSlice (ty:TypeId) (l c:Operand):stepW E ⟨d,.makeSlice ty l c,t,ps,af,none⟩ e q ⟨fr,hp,nx⟩=qW q (stepH E ⟨d,.makeSlice ty l c,t,ps,af,none⟩ e hp nx):=by
 show (match stepH E ⟨d,.makeSlice ty l c,t,ps,af,none⟩ e hp nx with | some (p,v,hp,nx)=>some (cjo q p,v,hp,nx) | none=>none)=_
 cases stepH E ⟨d,.makeSlice ty l c,t,ps,af,none⟩ e hp nx<;>rfl
theorem stepW_store (ty:TypeId) (a x:Operand):stepW E ⟨d,.store ty a x,t,ps,af,none⟩ e q ⟨fr,hp,nx⟩=qW q (stepH E ⟨d,.store ty a x,t,ps,af,none⟩ e hp nx):=by
 show (match stepH E ⟨d,.store ty a x,t,ps,af,none⟩ e hp nx with | some (p,v,hp,nx)=>some (cjo q p,v,hp,nx) | none=>none)=_
 cases stepH E ⟨d,.store ty a x,t,ps,af,none⟩ e hp nx<;>rfl
theorem stepW_append (args:Array Operand) (ats:Array TypeId):stepW E ⟨d,.call ⟨.builtin .append,args,ats⟩,t,ps,af,none⟩ e q ⟨fr,hp,nx⟩=qW q (stepH E ⟨d,.call ⟨.builtin .append,args,ats⟩,t,ps,af,none⟩ e hp nx):=by
 show (match stepH E ⟨d,.call ⟨.builtin .append,args,ats⟩,t,ps,af,none⟩ e hp nx with | some (p,v,hp,nx)=>some (cjo q p,v,hp,nx) | none=>none)=_
 cases stepH E ⟨d,.call ⟨.builtin .append,args,ats⟩,t,ps,af,none⟩ e hp nx<;>rfl
theorem stepW_clear (args:Array Operand) (ats:Array TypeId):stepW E ⟨d,.call ⟨.builtin .clear,args,ats⟩,t,ps,af,none⟩ e q ⟨fr,hp,nx⟩=qW q (stepH E ⟨d,.call ⟨.builtin .clear,args,ats⟩,t,ps,af,none⟩ e hp nx):=by
 show (match stepH E ⟨d,.call ⟨.builtin .clear,args,ats⟩,t,ps,af,none⟩ e hp nx with | some (p,v,hp,nx)=>some (cjo q p,v,hp,nx) | none=>none)=_
 cases stepH E ⟨d,.call ⟨.builtin .clear,args,ats⟩,t,ps,af,none⟩ e hp nx<;>rfl
theorem stepW_slice (ty:TypeId) (x:Operand) (lo hi:Option Operand):stepW E ⟨d,.slice ty x lo hi none,t,ps,af,none⟩ e q ⟨fr,hp,nx⟩=qW q (orH (stepP E ⟨d,.slice ty x lo hi none,t,ps,af,none⟩ e hp) hp nx (stepH E ⟨d,.slice ty x lo hi none,t,ps,af,none⟩ e hp nx)):=by
 unfold stepW
 cases stepP E ⟨d,.slice ty x lo hi none,t,ps,af,none⟩ e hp with
 | some r=>rfl
 | none=>cases stepH E ⟨d,.slice ty x lo hi none,t,ps,af,none⟩ e hp nx<;>rfl
theorem stepW_convert (ty dst:TypeId) (x:Operand):stepW E ⟨d,.convert ty dst x,t,ps,af,none⟩ e q ⟨fr,hp,nx⟩=qW q (orH (stepP E ⟨d,.convert ty dst x,t,ps,af,none⟩ e hp) hp nx (stepH E ⟨d,.convert ty dst x,t,ps,af,none⟩ e hp nx)):=by
 unfold stepW
 cases stepP E ⟨d,.convert ty dst x,t,ps,af,none⟩ e hp with
 | some r=>rfl
 | none=>cases stepH E ⟨d,.convert ty dst x,t,ps,af,none⟩ e hp nx<;>rfl
theorem stepW_call (f:Operand) (args:Array Operand) (ats:Array TypeId):stepW E ⟨d,.call ⟨.value f,args,ats⟩,t,ps,af,none⟩ e q ⟨fr,hp,nx⟩=qW q (orH (stepP E ⟨d,.call ⟨.value f,args,ats⟩,t,ps,af,none⟩ e hp) hp nx (stepH E ⟨d,.call ⟨.value f,args,ats⟩,t,ps,af,none⟩ e hp nx)):=by
 unfold stepW
 cases stepP E ⟨d,.call ⟨.value f,args,ats⟩,t,ps,af,none⟩ e hp with
 | some r=>rfl
 | none=>cases stepH E ⟨d,.call ⟨.value f,args,ats⟩,t,ps,af,none⟩ e hp nx<;>rfl
end
attribute [push_cast] qW_some qW_none stepW_alloc stepW_box stepW_buildSlice stepW_makeSlice stepW_store stepW_append stepW_clear stepW_slice stepW_convert stepW_call
attribute [push_cast] and_self implies_true decide_true decide_false Bool.not_true Bool.not_false
end Go.Ab
namespace Go.Ab
open Go Go.ChangeShapes Go.WideShapes Go.ChangeAt Go.RowKit
variable [GI]
abbrev mxl:Nat:=9223372036854775807
section
variable {H:Type} {enc:TypeId × Value→H} {P:Program} {w:World} {base:Nat} {sp:Nat→Bool} {held:Bool} (ety:K→TypeId)
abbrev allR (w:World):Nat→Prop:=fun b=>b < w.heap.size
def CarF (enc:TypeId × Value→H) (P:Program) (w:World) (base:Nat) (sp:Nat→Bool) (held:Bool) (ety:K→TypeId) (k:K) (fit:k.den→Prop) (t:TypeId) (fuel:Nat):Prop:=∀ cs d ps,DataW.trod enc P w base sp held fuel t cs=some (d,ps) →
 ∃ x:k.den,fit x∧cs.length=k.esz∧∀ (j:Nat) (c:AV),(elemCells k x)[j]?=some c→∃ u,cs[j]?=some u∧Rep w (allR w) (cellCD ety c) u
def SlF (enc:TypeId × Value→H) (P:Program) (w:World) (base:Nat) (sp:Nat→Bool) (held:Bool) (ety:K→TypeId) (k:K) (fit:k.den→Prop) (t:TypeId) (fuel:Nat):Prop:=∀ cs d ps,DataW.trod enc P w base sp held fuel t cs=some (d,ps) →
 ∃ (l:List k.den) (v:Value),cs=[v]∧l.length≤mxl∧(∀ x∈l,fit x)∧Rep w (allR w) (dataCD ety ⟨k,l⟩) v
variable {ety}
theorem trod_str {t:TypeId} (ht:P.underlying t=some .string) {fuel:Nat} {cs:List Value} {d:DataW H} {ps:List MemPlace} (h:DataW.trod enc P w base sp held fuel t cs=some (d,ps)):∃ l:Str,cs=[sv l]∧l.length≤mxl:=by
 cases fuel with
 | zero=>simp [DataW.trod] at h
 | succ n =>
  unfold DataW.trod at h
  rw [ht] at h
  split at h<;>simp_all
  rename_i s
  exact ⟨s.data.toList,rfl,by have:=h.1;simp only [Go.maxLen] at this;exact this⟩
theorem trod_int {t:TypeId} (ht:P.underlying t=some (.int .i64)) {fuel:Nat} {cs:List Value} {d:DataW H} {ps:List MemPlace} (h:DataW.trod enc P w base sp held fuel t cs=some (d,ps)):∃ n:Int,cs=[.int .i64 n]∧i64ok n:=by
 cases fuel with
 | zero=>simp [DataW.trod] at h
 | succ n =>
  unfold DataW.trod at h
  rw [ht] at h
  split at h<;>simp_all
  rename_i k _ n heq
  subst heq
  have h2:=h.1.2
  simp only [Lit.wf,decide_eq_true_eq,Bool.and_eq_true] at h2
  exact h2
theorem trod_struct {t:TypeId} {fs:Array Field} (ht:P.underlying t=some (.struct fs)) {fuel:Nat} {cs:List Value} {d:DataW H} {ps:List MemPlace} (h:DataW.trod enc P w base sp held (fuel+1) t cs=some (d,ps)) :
  cs.length=P.cellsOf t∧∀ f∈fs.toList,∃ d' p',DataW.trod enc P w base sp held fuel f.type ((cs.drop f.offset).take (P.cellsOf f.type))=some (d',p'):=by
 unfold DataW.trod at h
 rw [ht] at h
 split at h<;>simp_all
 obtain ⟨a,h1,h2⟩:=h.2
 intro f hf
 obtain ⟨i,hi,rfl⟩:=List.mem_iff_getElem.1 (Array.mem_toList_iff.2 hf)
 have hl:=mapM_some_length h1
 have hg:=mapM_some_get h1 i _ (List.getElem?_eq_getElem hi)
 have hlt:i < a.length:=by rw [hl];exact hi
 refine ⟨a[i].1,a[i].2,?_⟩
 simp at hg ⊢
 rw [hg]
 simp [hlt]
theorem addr_add (a:Addr) (i j:Nat):(a.add i).add j=a.add (i+j):=by
 unfold Addr.add
 split<;>split<;>simp_all<;>(try (split<;>simp_all))<;>omega
theorem slF_of {k:K} {fit:k.den→Prop} {t e:TypeId} (ht:P.underlying t=some (.slice e)) (hc:P.cellsOf e=k.esz) (hk:0 < k.esz) {fuel:Nat} (hf:CarF enc P w base sp held ety k fit e fuel):SlF enc P w base sp held ety k fit t (fuel+1):=by
 intro cs d ps h
 unfold DataW.trod at h
 rw [ht] at h
 split at h
 case h_7 =>
  rename_i heq
  cases heq
  exact ⟨[],_,rfl,Nat.zero_le _,fun _ h=>(by cases h),.sl _ _ [] none 0 (fun _=>undef) (Nat.le_refl _) (fun _ h=>by cases h) (fun k cd hk=>by simp at hk) (fun k cd hk=>by simp at hk)⟩
 case h_8 =>
  rename_i a len cap heq
  cases heq
  simp only at h
  split at h
  ·rename_i hb
   obtain ⟨hb1,hb2,hb3⟩:=hb
   cases hm:(List.range len).mapM (fun i=>(w.cells? base (a.add (i * P.cellsOf e)) (P.cellsOf e)).bind (DataW.trod enc P w base sp held fuel e)) with
   | none=>rw [hm] at h;cases h
   | some elems =>
    have hlen:elems.length=len:=by simpa using mapM_some_length hm
    have hel:∀ i,i < len→∃ cs d' p',w.cells? base (a.add (i * P.cellsOf e)) (P.cellsOf e)=some cs∧DataW.trod enc P w base sp held fuel e cs=some (d',p'):=by
     intro i hi
     have:=mapM_some_get hm i i (by simp [hi])
     rw [List.getElem?_eq_getElem (by omega)] at this
     cases hc:w.cells? base (a.add (i * P.cellsOf e)) (P.cellsOf e) with
     | none=>rw [hc] at this;cases this
     | some cs =>
      rw [hc] at this
      exact ⟨cs,_,_,rfl,this⟩
    have hx:∀ i,i < len→∃ x:k.den,fit x∧∃ cs:List Value,w.cells? base (a.add (i * P.cellsOf e)) (P.cellsOf e)=some cs∧cs.length=k.esz∧∀ (j:Nat) (c:AV),(elemCells k x)[j]?=some c→∃ u,cs[j]?=some u∧Rep w (allR w) (cellCD ety c) u:=by
     intro i hi
     obtain ⟨cs,d',p',h1,h2⟩:=hel i hi
     obtain ⟨x,h3,h4,h5⟩:=hf cs d' p' h2
     exact ⟨x,h3,cs,h1,h4,h5⟩
    let X:Nat→k.den:=fun i=>if hi:i < len then (hx i hi).choose else k.dflt
    have hX:∀ i (hi:i < len),fit (X i)∧∃ cs:List Value,w.cells? base (a.add (i * P.cellsOf e)) (P.cellsOf e)=some cs∧cs.length=k.esz∧∀ (j:Nat) (c:AV),(elemCells k (X i))[j]?=some c→∃ u,cs[j]?=some u∧Rep w (allR w) (cellCD ety c) u:=by
     intro i hi
     have:X i=(hx i hi).choose:=dif_pos hi
     rw [this]
     exact (hx i hi).choose_spec
    let l:List k.den:=(List.range len).map X
    have hll:l.length=len:=by simp [l]
    refine ⟨l,_,rfl,by rw [hll];exact Nat.le_trans hb2 (by simpa [Go.maxLen] using hb3),fun x hx'=>?_,?_⟩
    ·obtain ⟨i,hi,rfl⟩:=List.mem_map.1 hx'
     exact (hX i (List.mem_range.1 hi)).1
    ·have hn:∀ row∈l.map (elemCD ety k),row.length=k.esz:=by
      intro row hr
      obtain ⟨x,_,rfl⟩:=List.mem_map.1 hr
      exact elemCD_len ety k x
     -- the cell at place q of the whole
     have hq:∀ (q:Nat) (cd:CD),(l.map (elemCD ety k)).flatten[q]?=some cd→∃ u,w.cell? (a.add q)=some u∧Rep w (allR w) cd u:=by
      intro q cd hqc
      have hfl:=flatten_len hn
      rw [List.length_map,hll] at hfl
      have hqlt:q < len * k.esz:=by rw [← hfl];exact (List.getElem?_eq_some_iff.1 hqc).1
      have hi:q / k.esz < len:=by rw [Nat.div_lt_iff_lt_mul hk];exact hqlt
      have hj:q % k.esz < k.esz:=Nat.mod_lt _ hk
      obtain ⟨_,cs,c1,c2,c3⟩:=hX (q / k.esz) hi
      have hrow:(l.map (elemCD ety k))[q / k.esz]?=some (elemCD ety k (X (q / k.esz))):=by simp [l,hi]
      have hjc:q % k.esz < (elemCells k (X (q / k.esz))).length:=by rw [elemCells_len];exact hj
      have hcell:(elemCD ety k (X (q / k.esz)))[q % k.esz]?=some (cellCD ety ((elemCells k (X (q / k.esz)))[q % k.esz])):=by
       rw [elemCD_cells,List.getElem?_map,List.getElem?_eq_getElem hjc]
       rfl
      have:=flatten_get hn hrow hcell
      have hqe:q / k.esz * k.esz+q % k.esz=q:=by rw [Nat.mul_comm];exact Nat.div_add_mod q k.esz
      rw [hqe,hqc] at this
      cases this
      obtain ⟨u,u1,u2⟩:=c3 _ _ (List.getElem?_eq_getElem hjc)
      refine ⟨u,?_,u2⟩
      obtain ⟨_,_,hcc⟩:=World.cells?_some c1
      have:=hcc (q % k.esz) (by rw [hc];exact hj)
      rw [u1] at this
      rw [← this,hc]
      rw [addr_add,hqe]
     have hspot:∀ (q:Nat) (cd:CD),(l.map (elemCD ety k)).flatten[q]?=some cd→a=⟨a.block,a.off,none⟩∧a.block < w.heap.size:=by
      intro q cd hqc
      have h0:0 < (l.map (elemCD ety k)).flatten.length:=Nat.lt_of_le_of_lt (Nat.zero_le _) (List.getElem?_eq_some_iff.1 hqc).1
      obtain ⟨u,hu,_⟩:=hq 0 _ (List.getElem?_eq_getElem h0)
      rw [show a.add 0=a from rfl] at hu
      have h1:=World.cell?_spot hu
      have h2:=World.block_lt_of_cell? _ _ hu
      obtain ⟨b,o,s⟩:=a
      simp only at h1
      subst h1
      exact ⟨rfl,h2⟩
     show Rep w (allR w) (.sl (ety k) k.esz (l.map (elemCD ety k))) _
     have hlm:(l.map (elemCD ety k)).length=len:=by simp [hll]
     rw [← hlm]
     refine .sl _ _ _ _ cap (fun q=>(w.cell? (a.add q)).getD undef) (by rw [hlm];exact hb2) hn (fun q cd hqc=>?_) (fun q cd hqc=>?_)
     ·obtain ⟨h1,h2⟩:=hspot q cd hqc
      obtain ⟨u,hu,_⟩:=hq q cd hqc
      refine ⟨a.block,a.off,by rw [← h1],h2,?_⟩
      have:a.add q=⟨a.block,a.off+q,none⟩:=by rw [h1];exact add_plain _ _ _
      rw [← this,hu]
      rfl
     ·obtain ⟨u,hu,hr⟩:=hq q cd hqc
      rw [hu]
      exact hr
  ·cases h
 all_goals first
  | (rename_i heq;cases heq;done)
  | (rename_i heq _;cases heq;done)
  | (cases h;done)
theorem take1_drop {cs:List Value} {o:Nat} {v:Value} (h:(cs.drop o).take 1=[v]):cs[o]?=some v:=by
 have:=congrArg (·[0]?) h
 simpa using this
theorem entry_sl {k:K} {fit:k.den→Prop} {t e:TypeId} {v:Value} {d:DataW H} {ps:List MemPlace} (hnot:∀ cs,v≠.agg cs) (hf:∀ fuel,SlF enc P w base sp held ety k fit t fuel)
  (h:DataW.Trod enc P w base sp held t v d ps):∃ l:List k.den,l.length≤mxl∧(∀ x∈l,fit x)∧RelV (ctx0 ety w (allR w)) (.dat ⟨k,l⟩) v:=by
 obtain ⟨fuel,h⟩:=h
 obtain ⟨l,u,h1,h2,h3,h4⟩:=hf fuel _ d ps h
 have:v=u:=by
  cases v<;>first | (simp [Value.cells] at h1;exact h1) | exact absurd rfl (hnot _)
 subst this
 exact ⟨l,h2,h3,.dat _ _ h4⟩
theorem entry_int {t:TypeId} {v:Value} {d:DataW H} {ps:List MemPlace} (ht:P.underlying t=some (.int .i64)) (hs:∃ n,v=.int .i64 n)
  (h:DataW.Trod enc P w base sp held t v d ps):∃ n:Int,i64ok n∧RelV (ctx0 ety w (allR w)) (.int .i64 n) v:=by
 obtain ⟨n,rfl⟩:=hs
 obtain ⟨fuel,h⟩:=h
 obtain ⟨l,h1,h2⟩:=trod_int ht h
 have e:Value.int .i64 n=.int .i64 l:=by simpa [Value.cells] using h1
 rw [e]
 exact ⟨l,h2,.int _ _⟩
abbrev fitS (s:Str):Prop:=s.length≤mxl
theorem fieldAt {t:TypeId} {fs:Array Field} (ht:P.underlying t=some (.struct fs)) {fuel:Nat} {cs:List Value} {d:DataW H} {ps:List MemPlace} (h:DataW.trod enc P w base sp held (fuel+1) t cs=some (d,ps)) (i:Nat) {f:Field} (hi:fs[i]?=some f) :
  ∃ d' p',DataW.trod enc P w base sp held fuel f.type ((cs.drop f.offset).take (P.cellsOf f.type))=some (d',p') :=
 (trod_struct ht h).2 f (by simpa using Array.mem_of_getElem? hi)
theorem str_at {t:TypeId} {o:Nat} {fuel:Nat} {cs:List Value} (ht:P.underlying t=some .string) (hc:P.cellsOf t=1) (h:∃ d' p',DataW.trod enc P w base sp held fuel t ((cs.drop o).take (P.cellsOf t))=some (d',p')):∃ l:Str,cs[o]?=some (sv l)∧fitS l:=by
 obtain ⟨d',p',h⟩:=h
 rw [hc] at h
 obtain ⟨l,h1,h2⟩:=trod_str ht h
 exact ⟨l,take1_drop h1,h2⟩
theorem int_at {t:TypeId} {o:Nat} {fuel:Nat} {cs:List Value} (ht:P.underlying t=some (.int .i64)) (hc:P.cellsOf t=1) (h:∃ d' p',DataW.trod enc P w base sp held fuel t ((cs.drop o).take (P.cellsOf t))=some (d',p')):∃ n:Int,cs[o]?=some (.int .i64 n)∧i64ok n:=by
 obtain ⟨d',p',h⟩:=h
 rw [hc] at h
 obtain ⟨l,h1,h2⟩:=trod_int ht h
 exact ⟨l,take1_drop h1,h2⟩
theorem sl_at {k:K} {fit:k.den→Prop} {t:TypeId} {o:Nat} {fuel:Nat} {cs:List Value} (hs:SlF enc P w base sp held ety k fit t fuel) (hc:P.cellsOf t=1) (h:∃ d' p',DataW.trod enc P w base sp held fuel t ((cs.drop o).take (P.cellsOf t))=some (d',p')) :
  ∃ (l:List k.den) (v:Value),cs[o]?=some v∧l.length≤mxl∧(∀ x∈l,fit x)∧Rep w (allR w) (dataCD ety ⟨k,l⟩) v:=by
 obtain ⟨d',p',h⟩:=h
 rw [hc] at h
 obtain ⟨l,v,h1,h2,h3,h4⟩:=hs _ _ _ h
 exact ⟨l,v,take1_drop h1,h2,h3,h4⟩
theorem carF_zero {k:K} {fit:k.den→Prop} {t:TypeId}:CarF enc P w base sp held ety k fit t 0:=fun cs d ps h=>by simp [DataW.trod] at h
theorem slF_zero {k:K} {fit:k.den→Prop} {t:TypeId}:SlF enc P w base sp held ety k fit t 0:=fun cs d ps h=>by simp [DataW.trod] at h
theorem slF_all {k:K} {fit:k.den→Prop} {t e:TypeId} (ht:P.underlying t=some (.slice e)) (hc:P.cellsOf e=k.esz) (hk:0 < k.esz) (hf:∀ fuel,CarF enc P w base sp held ety k fit e fuel):∀ fuel,SlF enc P w base sp held ety k fit t fuel
 | 0=>slF_zero
 | n+1=>slF_of ht hc hk (hf n)
theorem fields_at {t:TypeId} {fs:Array Field} {L:Array (TypeId × Nat)} (ht:P.underlying t=some (.struct fs)) (hf:fs.map (fun f=>(f.type,f.offset))=L) {fuel:Nat} {cs:List Value} {d:DataW H} {ps:List MemPlace}
  (h:DataW.trod enc P w base sp held (fuel+1) t cs=some (d,ps)) (i:Nat) (x:TypeId × Nat) (hx:L[i]?=some x):∃ d' p',DataW.trod enc P w base sp held fuel x.1 ((cs.drop x.2).take (P.cellsOf x.1))=some (d',p'):=by
 rw [← hf,Array.getElem?_map] at hx
 cases hfi:fs[i]? with
 | none=>rw [hfi] at hx;cases hx
 | some f=>rw [hfi] at hx;cases hx;exact fieldAt ht h i hfi
abbrev fitA2 (a:Attr):Prop:=fitS a.name∧fitS a.value
mutual
def fitNo:Node→Prop
 | .mk _ _ n t a ks=>fitS n∧fitS t∧(a.length≤mxl∧∀ x∈a,fitA2 x)∧ks.length≤mxl∧fitNos ks
def fitNos:List Node→Prop
 | []=>True
 | x :: r=>fitNo x∧fitNos r
end
theorem fitNos_of {l:List Node} (h:∀ x∈l,fitNo x):fitNos l:=by
 induction l with
 | nil=>exact trivial
 | cons x r ih=>exact ⟨h x List.mem_cons_self,ih fun y hy=>h y (List.mem_cons_of_mem _ hy)⟩
theorem carF_attr {t ts:TypeId} {fs:Array Field} (ht:P.underlying t=some (.struct fs)) (hf:fs.map (fun f=>(f.type,f.offset))=#[(ts,0),(ts,1)]) (hc:P.cellsOf t=2) (h1:P.underlying ts=some .string) (c1:P.cellsOf ts=1):∀ fuel,CarF enc P w base sp held ety .attr fitA2 t fuel
 | 0=>carF_zero
 | fuel+1=>fun cs d ps h=>by
  have hl:=(trod_struct ht h).1
  have hget:=fields_at ht hf h
  obtain ⟨l0,e0,f0⟩:=str_at h1 c1 (hget 0 (ts,0) rfl)
  obtain ⟨l1,e1,f1⟩:=str_at h1 c1 (hget 1 (ts,1) rfl)
  refine ⟨⟨l0,l1⟩,⟨f0,f1⟩,by rw [hl,hc];rfl,fun j c hj=>?_⟩
  match j,hj with
  | 0,hj=>cases hj;exact ⟨_,e0,.sc _⟩
  | 1,hj=>cases hj;exact ⟨_,e1,.sc _⟩
theorem carF_node2 {t ti ts ta tk:TypeId} {fs:Array Field} (ht:P.underlying t=some (.struct fs)) (hf:fs.map (fun f=>(f.type,f.offset))=#[(ti,0),(ti,1),(ts,2),(ts,3),(ta,4),(tk,5)]) (hc:P.cellsOf t=6) (h0:P.underlying ti=some (.int .i64)) (h1:P.underlying ts=some .string)
  (h2:∀ fuel,SlF enc P w base sp held ety .attr fitA2 ta fuel) (hk:P.underlying tk=some (.slice t)) (c0:P.cellsOf ti=1) (c1:P.cellsOf ts=1) (c2:P.cellsOf ta=1) (c3:P.cellsOf tk=1):∀ fuel,CarF enc P w base sp held ety .node fitNo t fuel∧SlF enc P w base sp held ety .node fitNo tk fuel
 | 0=>⟨carF_zero,slF_zero⟩
 | fuel+1=>by
  have ih:=carF_node2 ht hf hc h0 h1 h2 hk c0 c1 c2 c3 fuel
  refine ⟨fun cs d ps h=>?_,slF_of hk (by rw [hc];rfl) (by decide) ih.1⟩
  have hl:=(trod_struct ht h).1
  have hget:=fields_at ht hf h
  obtain ⟨n0,e0,f0⟩:=int_at h0 c0 (hget 0 (ti,0) rfl)
  obtain ⟨n1,e1,f1⟩:=int_at h0 c0 (hget 1 (ti,1) rfl)
  obtain ⟨l2,e2,f2⟩:=str_at h1 c1 (hget 2 (ts,2) rfl)
  obtain ⟨l3,e3,f3⟩:=str_at h1 c1 (hget 3 (ts,3) rfl)
  obtain ⟨a4,v4,e4,f4,g4,k4⟩:=sl_at (h2 fuel) c2 (hget 4 (ta,4) rfl)
  obtain ⟨a5,v5,e5,f5,g5,k5⟩:=sl_at ih.2 c3 (hget 5 (tk,5) rfl)
  refine ⟨.mk n0 n1 l2 l3 a4 a5,?_,by rw [hl,hc];rfl,fun j c hj=>?_⟩
  ·rw [fitNo];exact ⟨f2,f3,⟨f4,g4⟩,f5,fitNos_of g5⟩
  match j,hj with
  | 0,hj=>cases hj;exact ⟨_,e0,.sc _⟩
  | 1,hj=>cases hj;exact ⟨_,e1,.sc _⟩
  | 2,hj=>cases hj;exact ⟨_,e2,.sc _⟩
  | 3,hj=>cases hj;exact ⟨_,e3,.sc _⟩
  | 4,hj=>cases hj;exact ⟨_,e4,k4⟩
  | 5,hj=>cases hj;exact ⟨_,e5,k5⟩
theorem law_post {s:ChangeSpec} {f:Func} {tb:TypeId} {W W':World} {args:Array Value} {ds gs:List (DataW H)} {before:List MemPlace} (hl:laidOutB P=true) (hvars:s.vars=[]) (hres:f.resultTypes=#[tb]) (htb:P.underlying tb=some .bool)
  (hrd:∀ t∈f.params.toList,P.readableRec t=true∧t < P.types.size)
  (hfn:s.fn H (ds++gs)={ results:=[.lit (.bool true)],args:=ds }) (hW:DataW.Whole enc P f.params.toList s.vars false W args.toList ds gs before) (hk:Keep (fun _=>False) W W') :
  s.post enc P f false true false false W args (.bool true) W':=by
 have hW0:=hW
 obtain ⟨p,q,hA,hV,rfl,hfz,hnd⟩:=hW
 rw [hvars] at hV
 obtain ⟨rfl,rfl⟩:=trodVars_none hV
 have hargs:DataW.TrodAll enc P W' 0 (fun b=>decide (b < W.heap.size)) true f.params.toList args.toList ds p:=by
  have key:∀ (ts:List TypeId) (vs:List Value) (ds:List (DataW H)) (p:List MemPlace),(∀ t∈ts,P.readableRec t=true∧t < P.types.size)→DataW.TrodAll enc P W 0 (fun _=>true) true ts vs ds p→DataW.TrodAll enc P W' 0 (fun b=>decide (b < W.heap.size)) true ts vs ds p:=by
   intro ts
   induction ts with
   | nil=>intro vs ds p _ h;cases vs<;>cases ds<;>first | exact h | exact h.elim
   | cons t ts ih =>
    intro vs ds p ht h
    have hlt:=DataW.TrodAll.lt h
    cases vs with
    | nil=>exact h.elim
    | cons v vs =>
     cases ds with
     | nil=>exact h.elim
     | cons d ds =>
      obtain ⟨p1,p2,h1,h2,rfl⟩:=h
      have:=ht t List.mem_cons_self
      exact ⟨p1,p2,Below.trod hl this.1 this.2 h1 hk.below (fun x hx=>hlt x (List.mem_append_left _ hx)),ih vs ds p2 (fun t h=>ht t (List.mem_cons_of_mem _ h)) h2,rfl⟩
  exact key _ _ _ _ hrd hA
 refine ⟨ds,[],p++[],[],p,[],hW0,?_,?_,?_,hk.keptBut _,fun h=>by cases h⟩
 ·rw [hfn,hres]
  exact trodAll_mk1 (shut_bool htb true)
 ·rw [hfn]
  exact hargs
 ·rw [hvars,hfn]
  rfl
end
end Go.Ab
namespace Go.Ab
open Go Go.RowKit
variable [GI]
theorem argsA {X:Ctx} {args:List AV} {vs:Array Value} {F:Nat→Prop} (h:RelA X (.agg args) (.agg vs) F):args.length=vs.size∧∀ (j:Nat) (c:AV) (u:Value),args[j]?=some c→vs[j]?=some u→∃ F',RelA X c u F':=by
 cases h with
 | pl c v F h hF =>
  cases h with
  | agg cs vs hl h=>exact ⟨hl,fun j c u hj hu=>⟨_,.pl c u (fun _=>False) (h j c u hj hu) fun _ h=>h⟩⟩
 | agg cs vs fs F hl h hd hF=>exact ⟨hl,fun j c u hj hu=>⟨_,h j c u hj hu⟩⟩
theorem args2 {X:Ctx} {a b:AV} {vs:Array Value} {F:Nat→Prop} (h:RelA X (.agg [a,b]) (.agg vs) F):∃ u v,vs=#[u,v]∧(∃ F',RelA X a u F')∧∃ F',RelA X b v F':=by
 obtain ⟨hl,hg⟩:=argsA h
 obtain ⟨l⟩:=vs
 match l,hl with
 | [u,v],_=>exact ⟨u,v,rfl,hg 0 a u rfl rfl,hg 1 b v rfl rfl⟩
theorem args1 {X:Ctx} {a:AV} {vs:Array Value} {F:Nat→Prop} (h:RelA X (.agg [a]) (.agg vs) F):∃ u,vs=#[u]∧∃ F',RelA X a u F':=by
 obtain ⟨hl,hg⟩:=argsA h
 obtain ⟨l⟩:=vs
 match l,hl with
 | [u],_=>exact ⟨u,rfl,hg 0 a u rfl rfl⟩
theorem args3 {X:Ctx} {a b c:AV} {vs:Array Value} {F:Nat→Prop} (h:RelA X (.agg [a,b,c]) (.agg vs) F):∃ u v t,vs=#[u,v,t]∧(∃ F',RelA X a u F')∧(∃ F',RelA X b v F')∧∃ F',RelA X c t F':=by
 obtain ⟨hl,hg⟩:=argsA h
 obtain ⟨l⟩:=vs
 match l,hl with
 | [u,v,t],_=>exact ⟨u,v,t,rfl,hg 0 a u rfl rfl,hg 1 b v rfl rfl,hg 2 c t rfl rfl⟩
theorem relA_str {X:Ctx} {l:Str} {v:Value} {F:Nat→Prop} (h:RelA X (.str l) v F):v=sv l:=by cases h with | pl _ _ _ h _=>exact h.str_inv
theorem relA_int {X:Ctx} {k n} {v:Value} {F:Nat→Prop} (h:RelA X (.int k n) v F):v=.int k n:=by cases h with | pl _ _ _ h _=>exact h.int_inv
theorem relA_u8 {X:Ctx} {b} {v:Value} {F:Nat→Prop} (h:RelA X (.u8 b) v F):v=.int .u8 (b.toNat:Nat):=by cases h with | pl _ _ _ h _=>exact h.u8_inv
theorem relA_dat {X:Ctx} {d:Data} {v:Value} {F:Nat→Prop} (h:RelA X (.dat d) v F):Rep X.w X.R (dataCD X.ety d) v:=by
 cases h with
 | pl _ _ _ h _=>cases h with | dat d v h=>exact h
theorem keep_of_below {w w':World} {S:Nat→Prop} (h:Below w.heap.size w w'):Keep S w w':=⟨h.os,h.tape,h.output,h.size,fun b hb _=>h.block b hb⟩
theorem fin_plain {P:Program} {ety:K→TypeId} {w w':World} {R F:Nat→Prop} {e:Ending} {r:AV} {v:Value} {modes:List Md} {vs:List Value} (hio:inouts modes vs=[]) (hR:∀ b,R b→b < w.heap.size) (he:e=.returned v) (hb:Below w.heap.size w w') (hr:∀ X,RelV X r v) :
  ∃ (v:Value) (R' F':Nat→Prop),e=.returned v∧(∀ b,R b→R' b)∧(∀ b,R' b→b < w'.heap.size)∧(∀ b,R' b→R b∨w.heap.size≤b∨F b) ∧
   RelA (ctx0 ety w' R') (.agg (r :: [])) (.agg (v :: inouts modes vs).toArray) F'∧(∀ b,F' b→¬ R' b)∧(∀ b,F' b→w.heap.size≤b∨F b)∧Keep F w w':=by
 refine ⟨v,R,fun _=>False,he,fun _ h=>h,fun b h=>Nat.lt_of_lt_of_le (hR b h) hb.size,fun b h=>.inl h,?_,fun _ h=>h.elim,fun _ h=>h.elim,keep_of_below hb⟩
 rw [hio]
 refine .pl _ _ _ (.agg _ _ rfl fun j c u hj hu=>?_) fun _ h=>h
 match j,hj,hu with
 | 0,hj,hu=>cases hj;cases hu;exact hr _
end Go.Ab
namespace Go.Ab
open Go
variable [GI]
theorem setCells_blk {g:Nat} {t:TypeId} {fz:Nat × Nat}:∀ (vs:List Value) (o:Nat) (cur:Array Value) (w:World),w.heap[g]?=some (.cells cur t fz)→o+vs.length≤cur.size →
  ∃ cur':Array Value,(w.setCells g o vs).heap[g]?=some (.cells cur' t fz)∧cur'.size=cur.size∧(∀ k:Nat,cur'[k]?=if o≤k∧k < o+vs.length then vs[k - o]? else cur[k]?)∧Keep (fun b=>b=g) w (w.setCells g o vs)
 | [],o,cur,w,hg,hl=>⟨cur,hg,rfl,fun k=>by rw [if_neg (by simp only [List.length_nil];omega)],.refl _ _⟩
 | v :: rest,o,cur,w,hg,hl=>by
  have hi:o < cur.size:=by simp at hl;omega
  have hg':(w.setCell ⟨g,o,none⟩ v).heap[g]?=some (.cells (cur.setIfInBounds o v) t fz):=by
   show (w.heap.modify g _)[g]?=_
   rw [Array.getElem?_modify,if_pos rfl,hg]
   rfl
  obtain ⟨cur',r2,r3,r4,r5⟩:=setCells_blk rest (o+1) (cur.setIfInBounds o v) _ hg' (by simp at hl ⊢;omega)
  refine ⟨cur',r2,by rw [r3];simp,fun k=>?_,(keep_setCell w g o v).trans r5⟩
  rw [r4 k]
  by_cases h1:k=o
  ·subst h1
   rw [if_neg (by omega),if_pos ⟨Nat.le_refl _,by simp⟩]
   simp [hi]
  ·by_cases h2:o+1≤k∧k < o+1+rest.length
   ·rw [if_pos h2,if_pos (by simp only [List.length_cons];omega)]
    have:k - o=(k - (o+1))+1:=by omega
    rw [this]
    simp
   ·rw [if_neg h2,if_neg (by simp only [List.length_cons];omega)]
    rw [Array.getElem?_setIfInBounds,if_neg (fun e=>h1 e.symm)]
theorem keep_drew (S:Nat→Prop) (w:World):Keep S w w.drew:=⟨rfl,rfl,rfl,Nat.le_refl _,fun _ _ _=>rfl⟩
theorem cell_blk {w:World} {g:Nat} {cur:Array Value} {t:TypeId} {fz:Nat × Nat} (h:w.heap[g]?=some (.cells cur t fz)) (k:Nat):w.cell? ⟨g,k,none⟩=cur[k]?:=by
 simp [World.cell?,h]
theorem frozen_blk {w:World} {g:Nat} {cur:Array Value} {t:TypeId} {fz:Nat × Nat} (h:w.heap[g]?=some (.cells cur t fz)) (hf:∀ k:Nat,k < cur.size→¬ (fz.1≤k∧k < fz.2)) {k:Nat} (hk:k < cur.size):w.frozen? ⟨g,k,none⟩=false:=by
 have:=hf k hk
 obtain ⟨a,b⟩:=fz
 simp only [World.frozen?,h]
 simpa using fun h=>Nat.le_of_not_lt fun h'=>this ⟨h,h'⟩
def delS (n i j k:Nat):Nat:=if k < i * n then k else k+(j - i) * n
structure DelW (w w':World) (g n cap i j esz:Nat) (cur:Array Value) (t:TypeId) (fz:Nat × Nat):Prop where
 keep:Keep (fun b=>b=g) w w'
 blk:∃ cur':Array Value,w'.heap[g]?=some (.cells cur' t fz)∧cur'.size=cur.size∧∀ k,k < (n - (j - i)) * esz→cur'[k]?=cur[delS esz i j k]?
theorem relA_own {X:Ctx} {q:Bool} {d:Data} {v:Value} {F:Nat→Prop} (h:RelA X (.own q d) v F):OwnO X.w X.R q (dataCD X.ety d) v F:=by
 cases h with
 | own _ _ _ _ h=>exact h
 | pl _ _ _ h _=>cases h
theorem argsF {X:Ctx} {args:List AV} {vs:Array Value} {F:Nat→Prop} (h:RelA X (.agg args) (.agg vs) F):args.length=vs.size∧∃ fs:Nat→Nat→Prop,(∀ (j:Nat) (c:AV) (u:Value),args[j]?=some c→vs[j]?=some u→RelA X c u (fs j))∧(∀ j k b,j < args.length→k < args.length→fs j b→fs k b→j=k)∧∀ b,F b↔∃ j,j < args.length∧fs j b:=by
 cases h with
 | pl c v F h hF =>
  cases h with
  | agg cs vs hl h=>exact ⟨hl,fun _ _=>False,fun j c u hj hu=>.pl c u (fun _=>False) (h j c u hj hu) fun _ h=>h,fun _ _ _ _ _ h=>h.elim,fun b=>⟨fun h=>absurd h (hF b),fun ⟨_,_,h⟩=>h.elim⟩⟩
 | agg cs vs fs F hl h hd hF=>exact ⟨hl,fs,h,hd,hF⟩
end Go.Ab
namespace Go.Ab
open Go
variable [GI]
end Go.Ab
namespace Go.Ab
open Go Go.Sort
variable [GI]
end Go.Ab
namespace Go.Ab
open Go
variable [GI]
structure Arr (w:World) (g:Nat) (t:TypeId) (fz:Nat × Nat) (esz:Nat) (cur:Array Value) (N:Nat) (τ:Nat→Nat) (wx:World):Prop where
 keep:Keep (fun b=>b=g) w wx
 blk:∃ curx:Array Value,wx.heap[g]?=some (.cells curx t fz)∧curx.size=cur.size∧∀ p c,p < N→c < esz→curx[p * esz+c]?=cur[τ p * esz+c]?
theorem Arr.grown {w wx wy:World} {g:Nat} {t:TypeId} {fz:Nat × Nat} {esz:Nat} {cur:Array Value} {N:Nat} {τ:Nat→Nat} (h:Arr w g t fz esz cur N τ wx) (k:Keep (fun _=>False) wx wy):Arr w g t fz esz cur N τ wy:=by
 obtain ⟨h1,curx,h2,h3,h4⟩:=h
 have hg:g < wx.heap.size:=by
  rcases Nat.lt_or_ge g wx.heap.size with h' | h'
  ·exact h'
  ·rw [Array.getElem?_eq_none h'] at h2;cases h2
 exact ⟨h1.trans (k.mono fun _ h=>h.elim),curx,by rw [k.block g hg id];exact h2,h3,h4⟩
theorem Arr.cell {w wx:World} {g:Nat} {t:TypeId} {fz:Nat × Nat} {esz:Nat} {cur:Array Value} {N:Nat} {τ:Nat→Nat} (h:Arr w g t fz esz cur N τ wx) {p c:Nat} (hp:p < N) (hc:c < esz) {v:Value} (hv:cur[τ p * esz+c]?=some v):wx.cell? ⟨g,p * esz+c,none⟩=some v:=by
 obtain ⟨_,curx,h2,_,h4⟩:=h
 rw [cell_blk h2,h4 p c hp hc];exact hv
theorem Arr.set {w wx:World} {g:Nat} {t:TypeId} {fz:Nat × Nat} {esz:Nat} {cur:Array Value} {N:Nat} {τ:Nat→Nat} (h:Arr w g t fz esz cur N τ wx) {q m:Nat} (hq:q < N) (hN:N * esz≤cur.size) {vs:List Value} (hl:vs.length=esz) (hvs:∀ c,c < esz→vs[c]?=cur[m * esz+c]?) :
  Arr w g t fz esz cur N (fun p=>if p=q then m else τ p) (wx.setCells g (q * esz) vs):=by
 obtain ⟨h1,curx,h2,h3,h4⟩:=h
 have hqe:q * esz+esz≤N * esz:=by rw [← Nat.succ_mul];exact Nat.mul_le_mul_right _ hq
 obtain ⟨cury,b1,b2,b3,b4⟩:=setCells_blk (g:=g) (t:=t) (fz:=fz) vs (q * esz) curx wx h2 (by rw [hl,h3];omega)
 refine ⟨h1.trans b4,cury,b1,by rw [b2,h3],fun p c hp hc=>?_⟩
 rw [b3,hl]
 by_cases hpq:p=q
 ·subst hpq
  rw [if_pos (by omega),if_pos rfl,Nat.add_sub_cancel_left]
  exact hvs c hc
 ·rw [if_neg,if_neg hpq]
  ·exact h4 p c hp hc
  ·intro hh
   rcases Nat.lt_or_gt_of_ne hpq with hlt | hgt
   ·have:p * esz+esz≤q * esz:=by rw [← Nat.succ_mul];exact Nat.mul_le_mul_right _ hlt
    omega
   ·have:q * esz+esz≤p * esz:=by rw [← Nat.succ_mul];exact Nat.mul_le_mul_right _ hgt
    omega
end Go.Ab
