import Derived.WalkKit
import Derived.Lib.Strings
set_option linter.all false
namespace Go.Ab
open Go
abbrev Str:=List UInt8
structure Attr where
 name:Str
 value:Str
inductive Node where
 | mk (kind space:Int) (name text:Str) (attrs:List Attr) (kids:List Node)
structure Rule where
 space:Int
 name:Str
 attrs:List Str
structure Cfg where
 hasAllow:Bool
 hasAttrs:Bool
 allow:List Rule
 remove:List Rule
 unwrap:List Rule
 attrs:List Str
 drop:List Str
 comments:Bool
 data:Bool
structure Docu where
 name:Str
 kids:List Node
structure Kall where
 kind:Int
 doc:Int
 config:Int
 path:List Int
 name:Str
 text:Str
structure Answ where
 code:Int
 text:Str
structure Tokn where
 kind:Int
 pos:Int
 len:Int
 name:Str
 text:Str
 attrs:List Attr
 self:Bool
structure Opn where
 name:Str
 space:Int
def Node.kind:Node→Int | .mk k _ _ _ _ _=>k
def Node.space:Node→Int | .mk _ s _ _ _ _=>s
def Node.name:Node→Str | .mk _ _ n _ _ _=>n
def Node.text:Node→Str | .mk _ _ _ t _ _=>t
def Node.attrs:Node→List Attr | .mk _ _ _ _ a _=>a
def Node.kids:Node→List Node | .mk _ _ _ _ _ k=>k
inductive K where
 | u8 | str | int | bool | attr | node | rule | cfg | doc | call | answ | tokn | opn | nodes
 deriving DecidableEq
abbrev K.den:K→Type
 | .u8=>UInt8 | .str=>Str | .int=>Int | .bool=>Bool | .attr=>Attr | .node=>Node | .rule=>Rule | .cfg=>Cfg
 | .doc=>Docu | .call=>Kall | .answ=>Answ | .tokn=>Tokn | .opn=>Opn | .nodes=>List Node
def K.esz:K→Nat
 | .u8=>1 | .str=>1 | .int=>1 | .bool=>1 | .attr=>2 | .node=>6 | .rule=>3 | .cfg=>9
 | .doc=>2 | .call=>6 | .answ=>2 | .tokn=>7 | .opn=>2 | .nodes=>1
def K.dflt:(k:K)→k.den
 | .u8=>(0:UInt8) | .str=>([]:Str) | .int=>(0:Int) | .bool=>false | .attr=>(⟨[],[]⟩:Attr) | .node=>Node.mk 0 0 [] [] [] []
 | .rule=>(⟨0,[],[]⟩:Rule) | .cfg=>(⟨false,false,[],[],[],[],[],false,false⟩:Cfg) | .doc=>(⟨[],[]⟩:Docu)
 | .call=>(⟨0,0,0,[],[],[]⟩:Kall) | .answ=>(⟨0,[]⟩:Answ) | .tokn=>(⟨0,0,0,[],[],[],false⟩:Tokn) | .opn=>(⟨[],0⟩:Opn)
 | .nodes=>([]:List Node)
structure Data where
 k:K
 l:List k.den
inductive AV where
 | any
 | int (k:IntKind) (n:Int)
 | u8 (b:UInt8)
 | bool (b:Bool)
 | str (l:Str)
 | val (v:Value)
 | nilS
 | agg (cs:List AV)
 | tup (cs:List AV)
 | ptr (id off:Nat)
 | row (id:Nat)
 | elp (id:Nat) (i:Int) (off:Nat)
 | dat (d:Data)
 | dep (d:Data) (i:Int) (off:Nat)
 | fn (f:FuncId) (first caps:List AV)
 | opt (g:Bool) (v:AV)
 | rbp (cs:List AV) (off:Nat)
 | own (o:Bool) (d:Data)
 | pb (cs:List AV)
 | rsb (id:Nat) (lo:Int)
 | qb
 | err (b:Bool)
 | zp (id id2:Nat) (l:List Node) (p:List Int)
 | zlp (id id2 off:Nat)
 | slf (id:Nat) (T:TypeId)
 | slb (T:TypeId)
inductive AObj where
 | box (t:TypeId) (cs:List AV)
 | row (o:Bool) (d:Data)
 | hol (d:Data) (i:Int) (cs:List AV)
 | zip (l:List Node) (p:List Int) (id2:Nat) (cs:List AV)
 | dead
def atP:List Node→List Int→Option Node
 | _,[]=>none
 | l,i :: q=>if 0≤i∧i.toNat < l.length then match q with
  | []=>some (l.getD i.toNat (Node.mk 0 0 [] [] [] []))
  | _ :: _=>atP (Node.kids (l.getD i.toNat (Node.mk 0 0 [] [] [] []))) q
  else none
def lenZ:List Node→List Int→Prop
 | _,[]=>True
 | l,i :: q=>l.length≤1073741824∧lenZ (Node.kids (l.getD i.toNat (Node.mk 0 0 [] [] [] []))) q
def atN (l:List Node) (p:List Int):Node:=(atP l p).getD (Node.mk 0 0 [] [] [] [])
def putP:List Node→List Int→Node→List Node
 | l,[],_=>l
 | l,i :: q,x=>if 0≤i∧i.toNat < l.length then match q with
  | []=>l.set i.toNat x
  | _ :: _=>l.set i.toNat (match l.getD i.toNat (Node.mk 0 0 [] [] [] []) with | .mk k s n t a ks=>.mk k s n t a (putP ks q x))
  else l
abbrev Fr:=List (Nat × AV)
abbrev Hp:=List (Nat × AObj)
structure St where
 fr:Fr
 hp:Hp
 nx:Nat
def gt:Fr→Nat→AV
 | [],_=>.any
 | (m,v) :: r,n=>if m=n then v else gt r n
def hgt:Hp→Nat→AObj
 | [],_=>.dead
 | (m,v) :: r,n=>if m=n then v else hgt r n
def hput:Nat→AObj→Hp→Hp
 | n,o,[]=>[(n,o)]
 | n,o,(m,v) :: r=>if m=n then (m,o) :: r else (m,v) :: hput n o r
def elemCells:(k:K)→k.den→List AV
 | .u8,b=>[.u8 b]
 | .str,s=>[.str s]
 | .int,n=>[.int .i64 n]
 | .bool,b=>[.bool b]
 | .attr,a=>[.str (Attr.name a),.str (Attr.value a)]
 | .node,x=>[.int .i64 (Node.kind x),.int .i64 (Node.space x),.str (Node.name x),.str (Node.text x),.dat ⟨.attr,Node.attrs x⟩,.dat ⟨.node,Node.kids x⟩]
 | .rule,r=>[.int .i64 (Rule.space r),.str (Rule.name r),.dat ⟨.str,Rule.attrs r⟩]
 | .cfg,c=>[.bool (Cfg.hasAllow c),.bool (Cfg.hasAttrs c),.dat ⟨.rule,Cfg.allow c⟩,.dat ⟨.rule,Cfg.remove c⟩,.dat ⟨.rule,Cfg.unwrap c⟩,.dat ⟨.str,Cfg.attrs c⟩,.dat ⟨.str,Cfg.drop c⟩,.bool (Cfg.comments c),.bool (Cfg.data c)]
 | .doc,d=>[.str (Docu.name d),.dat ⟨.node,Docu.kids d⟩]
 | .call,c=>[.int .i64 (Kall.kind c),.int .i64 (Kall.doc c),.int .i64 (Kall.config c),.dat ⟨.int,Kall.path c⟩,.str (Kall.name c),.str (Kall.text c)]
 | .answ,a=>[.int .i64 (Answ.code a),.str (Answ.text a)]
 | .tokn,t=>[.int .i64 (Tokn.kind t),.int .i64 (Tokn.pos t),.int .i64 (Tokn.len t),.str (Tokn.name t),.str (Tokn.text t),.dat ⟨.attr,Tokn.attrs t⟩,.bool (Tokn.self t)]
 | .opn,o=>[.str (Opn.name o),.int .i64 (Opn.space o)]
 | .nodes,l=>[.dat ⟨.node,l⟩]
def Data.get (d:Data) (i:Int):d.k.den:=d.l.getD i.toNat d.k.dflt
def Data.asK:(k:K)→Data→Option (List k.den)
 | .u8,⟨.u8,l⟩=>some l
 | .str,⟨.str,l⟩=>some l
 | .int,⟨.int,l⟩=>some l
 | .bool,⟨.bool,l⟩=>some l
 | .attr,⟨.attr,l⟩=>some l
 | .node,⟨.node,l⟩=>some l
 | .rule,⟨.rule,l⟩=>some l
 | .cfg,⟨.cfg,l⟩=>some l
 | .doc,⟨.doc,l⟩=>some l
 | .call,⟨.call,l⟩=>some l
 | .answ,⟨.answ,l⟩=>some l
 | .tokn,⟨.tokn,l⟩=>some l
 | .opn,⟨.opn,l⟩=>some l
 | .nodes,⟨.nodes,l⟩=>some l
 | _,_=>none
def asL (k:K):AV→Option (List k.den × Bool)
 | .own o d=>(d.asK k).map fun l=>(l,o)
 | .dat d=>(d.asK k).map fun l=>(l,false)
 | .nilS=>some ([],true)
 | _=>none
def elemMk:(k:K)→List AV→Option (k.den × Bool)
 | .u8,[.u8 b]=>some (b,true)
 | .str,[.str s]=>some (s,true)
 | .int,[.int .i64 n]=>some (n,true)
 | .bool,[.bool b]=>some (b,true)
 | .attr,[.str a,.str b]=>some ((⟨a,b⟩:Attr),true)
 | .node,[.int .i64 k,.int .i64 s,.str n,.str t,a,b]=>match asL .attr a,asL .node b with
  | some (x,p),some (y,q)=>some (Node.mk k s n t x y,p&&q)
  | _,_=>none
 | .rule,[.int .i64 s,.str n,a]=>match asL .str a with
  | some (x,p)=>some ((⟨s,n,x⟩:Rule),p)
  | none=>none
 | .cfg,[.bool a,.bool b,c,d,e,f,g,.bool h,.bool i]=>match asL .rule c,asL .rule d,asL .rule e,asL .str f,asL .str g with
  | some (c,p),some (d,q),some (e,r),some (f,s),some (g,t)=>some ((⟨a,b,c,d,e,f,g,h,i⟩:Cfg),p&&q&&r&&s&&t)
  | _,_,_,_,_=>none
 | .doc,[.str n,a]=>match asL .node a with
  | some (x,p)=>some ((⟨n,x⟩:Docu),p)
  | none=>none
 | .call,[.int .i64 a,.int .i64 b,.int .i64 c,p,.str n,.str t]=>match asL .int p with
  | some (x,o)=>some ((⟨a,b,c,x,n,t⟩:Kall),o)
  | none=>none
 | .answ,[.int .i64 c,.str t]=>some ((⟨c,t⟩:Answ),true)
 | .tokn,[.int .i64 a,.int .i64 b,.int .i64 c,.str n,.str t,p,.bool f]=>match asL .attr p with
  | some (x,o)=>some ((⟨a,b,c,n,t,x,f⟩:Tokn),o)
  | none=>none
 | .opn,[.str n,.int .i64 s]=>some ((⟨n,s⟩:Opn),true)
 | .nodes,[a]=>match asL .node a with
  | some (x,o)=>some (x,o)
  | none=>none
 | _,_=>none
inductive TD where
 | unk
 | one (z:AV)
 | st (n:Nat) (fs:List (Nat × Nat × Bool)) (z:List AV)
 | sl (k:K)
inductive PS where
 | sc
 | sl (k:K)
 | st (k:K)
inductive Md where
 | rd | tk | io
structure Spec where
 ps:List PS
 modes:List Md
 pure:Bool
 run:List AV→Option (Option Prop × AV × List AV)
inductive Gho where
 | opn (t:Nat)
 | cls (t:Nat)
 | frz (t:Nat)
 | nil (k:K) (t:Nat)
 | nib (k:K) (t f:Nat)
 | zcl
 | nid (k:K) (t:Nat)
 | nbd (k:K) (t f:Nat)
 | drp (t:Nat)
 | lit
structure Inl where
 c:Code
 rs:List ResultVar
 dr:Nat→Option (List Nat × List (Bool × List Nat × List (List Nat)))
 gh:Nat→List Gho
structure Env where
 td:TypeId→TD
 ety:K→TypeId
 cal:FuncId→Option Spec
 dr:Nat→Option (List Nat × List (Bool × List Nat × List (List Nat))):=fun _=>none
 eqt:TypeId→Bool:=fun _=>false
 gh:Nat→List Gho:=fun _=>[]
 inl:FuncId→Option Inl:=fun _=>none
 fnd:FuncId→Bool:=fun _=>false
def Inl.env (i:Inl) (E:Env):Env:=⟨E.td,E.ety,E.cal,i.dr,E.eqt,i.gh,E.inl,E.fnd⟩
def AV.zr:AV→AV
 | .int .u8 n=>if n=0 then .u8 0 else .int .u8 n
 | v=>v
def ofVal0:Value→AV
 | .int .u8 n=>if 0≤n∧n≤255 then .u8 (UInt8.ofNat n.toNat) else .val (.int .u8 n)
 | .int k n=>.int k n
 | .bool b=>.bool b
 | .string s=>.str s.data.toList
 | .slice none 0 0=>.nilS
 | .nilFunc=>.val .nilFunc
 | .nilIface=>.val .nilIface
 | v=>.val v
def ofVal:Value→AV
 | .agg vs=>.agg (vs.toList.map ofVal0)
 | v=>ofVal0 v
def ev (fr:Fr):Operand→AV
 | .tmp t=>gt fr t
 | .const v=>ofVal v
 | .global g=>.val (.pointer (some ⟨g,0,none⟩))
 | .func f=>.fn f [] []
def AV.un:AV→AV
 | .opt _ v=>v
 | v=>v
def AV.req:AV→Option Prop
 | .opt g _=>some (g=true)
 | _=>none
def cjo:Option Prop→Option Prop→Option Prop
 | none,q=>q
 | some p,none=>some p
 | some p,some q=>some (p∧q)
def impo (h:Prop):Option Prop→Option Prop
 | none=>none
 | some p=>some (h→p)
abbrev i64ok (n:Int):Prop:=-9223372036854775808≤n∧n≤9223372036854775807
abbrev u8ok (n:Int):Prop:=0≤n∧n≤255
def strLt:Str→Str→Bool:=Op.bytesLess
def bin (op:BinOp) (x y:AV):Option (Option Prop × AV) :=
 match op,x,y with
 | .add,.int .i64 a,.int .i64 b=>some (some (i64ok (a+b)),.int .i64 (a+b))
 | .sub,.int .i64 a,.int .i64 b=>some (some (i64ok (a - b)),.int .i64 (a - b))
 | .mul,.int .i64 a,.int .i64 b=>some (some (i64ok (a * b)),.int .i64 (a * b))
 | .quo,.int .i64 a,.int .i64 b=>some (some (0≤a∧a≤9223372036854775807∧0 < b),.int .i64 (a / b))
 | .rem,.int .i64 a,.int .i64 b=>some (some (0≤a∧0 < b),.int .i64 (a % b))
 | .add,.u8 a,.u8 b=>some (none,.u8 (a+b))
 | .sub,.u8 a,.u8 b=>some (none,.u8 (a - b))
 | .quo,.u8 a,.u8 b=>some (some (b≠0),.u8 (a / b))
 | .rem,.u8 a,.u8 b=>some (some (b≠0),.u8 (a % b))
 | .lss,.int .i64 a,.int .i64 b=>some (none,.bool (decide (a < b)))
 | .leq,.int .i64 a,.int .i64 b=>some (none,.bool (decide (a≤b)))
 | .gtr,.int .i64 a,.int .i64 b=>some (none,.bool (decide (b < a)))
 | .geq,.int .i64 a,.int .i64 b=>some (none,.bool (decide (b≤a)))
 | .eql,.int .i64 a,.int .i64 b=>some (none,.bool (decide (a=b)))
 | .neq,.int .i64 a,.int .i64 b=>some (none,.bool (!decide (a=b)))
 | .lss,.u8 a,.u8 b=>some (none,.bool (decide (a < b)))
 | .leq,.u8 a,.u8 b=>some (none,.bool (decide (a≤b)))
 | .gtr,.u8 a,.u8 b=>some (none,.bool (decide (b < a)))
 | .geq,.u8 a,.u8 b=>some (none,.bool (decide (b≤a)))
 | .eql,.u8 a,.u8 b=>some (none,.bool (decide (a=b)))
 | .neq,.u8 a,.u8 b=>some (none,.bool (!decide (a=b)))
 | .add,.str a,.str b=>some (some (a.length+b.length≤9223372036854775807),.str (a++b))
 | .eql,.str a,.str b=>some (none,.bool (decide (a=b)))
 | .neq,.str a,.str b=>some (none,.bool (!decide (a=b)))
 | .lss,.str a,.str b=>some (none,.bool (strLt a b))
 | .gtr,.str a,.str b=>some (none,.bool (!(strLt a b || decide (a=b))))
 | .leq,.str a,.str b=>some (none,.bool (strLt a b || decide (a=b)))
 | .geq,.str a,.str b=>some (none,.bool (!strLt a b))
 | .shr,.u8 a,.int .u64 n=>some (some (0≤n∧n≤7),.u8 (UInt8.ofNat (a.toNat / 2 ^ n.toNat)))
 | .and,.u8 a,.u8 b=>some (none,.u8 (a &&& b))
 | _,_,_=>none
def isNilP:AV→Option Bool
 | .zp _ _ l p=>some (atP l p).isNone
 | .zlp ..=>some false
 | .ptr ..=>some false
 | .elp ..=>some false
 | .val (.pointer none)=>some true
 | _=>none
def isK:Operand→Bool
 | .const _=>true
 | _=>false
def isI:List AV→Bool
 | [_,.int .i64 _]=>true
 | _=>false
def binX (T:TD) (q kc:Bool) (op:BinOp) (x y:AV) (hp:Hp):Option (Option Prop × AV) :=
 match T,x,y with
 | .one (.val (.pointer none)),x,.val (.pointer none)=>match isNilP x with
  | some b=>match op with
   | .eql=>some (none,.bool b)
   | .neq=>some (none,.bool (!b))
   | _=>none
  | none=>none
 | .one (.val .nilIface),.err b,.val .nilIface=>if kc then match op with
  | .eql=>some (none,.bool (!b))
  | .neq=>some (none,.bool b)
  | _=>none
  else none
 | .one (.bool _),.bool a,.bool b=>match op with
  | .eql=>some (none,.bool (a == b))
  | .neq=>some (none,.bool (!(a == b)))
  | _=>none
 | .sl _,.nilS,.nilS=>match op with
  | .eql=>some (none,.bool true)
  | .neq=>some (none,.bool false)
  | _=>none
 | .sl _,.dat d,.nilS=>match op with
  | .eql=>some (none,bif d.l.isEmpty then .qb else .bool false)
  | .neq=>some (none,bif d.l.isEmpty then .qb else .bool true)
  | _=>none
 | .sl _,.row id,.nilS=>match hgt hp id with
  | .row _ d=>match op with
   | .eql=>some (some (d.l.length≠0),.bool false)
   | .neq=>some (some (d.l.length≠0),.bool true)
   | _=>none
  | _=>none
 | .st _ _ z,.agg [.str a,.str b],.agg [.str c,.str d]=>if (q&&!isI z)=true then match op with
   | .eql=>some (none,.bool (decide (a=c)&&decide (b=d)))
   | .neq=>some (none,.bool (!(decide (a=c)&&decide (b=d))))
   | _=>none
  else none
 | .st _ _ z,.agg [.str a,.int .i64 b],.agg [.str c,.int .i64 d]=>if (q&&isI z)=true then match op with
   | .eql=>some (none,.bool (decide (a=c)&&decide (b=d)))
   | .neq=>some (none,.bool (!(decide (a=c)&&decide (b=d))))
   | _=>none
  else none
 | _,_,_=>bin op x y
def byteAt (l:Str) (i:Int):UInt8:=l.getD i.toNat 0
def cut {α:Type} (l:List α) (lo hi:Int):List α:=(l.take hi.toNat).drop lo.toNat
def ldC (T:TD) (cs:List AV) (off:Nat):Option AV :=
 match T with
 | .st n _ _=>if off+n≤cs.length then some (.agg ((cs.drop off).take n)) else none
 | .unk=>none
 | _=>cs[off]?
def fieldOf (T:TD) (f:Nat):Option (Nat × Nat × Bool) :=
 match T with
 | .st _ fs _=>fs[f]?
 | _=>none
def pickV (c:AV) (a b:AV):Option (Option Prop × AV) :=
 match c.un,a.un,b.un with
 | .bool q,.bool x,.bool y=>some (cjo c.req (cjo (impo (q=true) a.req) (impo (q=false) b.req)),.bool (bif q then x else y))
 | .bool q,.int .i64 x,.int .i64 y=>some (cjo c.req (cjo (impo (q=true) a.req) (impo (q=false) b.req)),.int .i64 (bif q then x else y))
 | .bool q,.u8 x,.u8 y=>some (cjo c.req (cjo (impo (q=true) a.req) (impo (q=false) b.req)),.u8 (bif q then x else y))
 | .bool q,.str x,.str y=>some (cjo c.req (cjo (impo (q=true) a.req) (impo (q=false) b.req)),.str (bif q then x else y))
 | .bool q,x,.any=>some (cjo c.req (cjo (some (q=true)) a.req),x)
 | .bool q,.any,y=>some (cjo c.req (cjo (some (q=false)) b.req),y)
 | _,_,_=>none
def lenV (T:TD) (hp:Hp) (x:AV):Option (Option Prop × AV) :=
 match T,x with
 | .sl _,.dat d=>some (none,.int .i64 (d.l.length:Nat))
 | .one (.str _),.str l=>some (none,.int .i64 (l.length:Nat))
 | .sl _,.nilS=>some (none,.int .i64 0)
 | .sl _,.row id=>match hgt hp id with
  | .row _ d=>some (none,.int .i64 (d.l.length:Nat))
  | .hol d _ _=>some (none,.int .i64 (d.l.length:Nat))
  | _=>none
 | _,_=>none
def obnd (len:Nat):Option AV→Option AV→Option (Int × Int)
 | none,none=>some (0,len)
 | some (.int .i64 a),none=>some (a,len)
 | none,some (.int .i64 b)=>some (0,b)
 | some (.int .i64 a),some (.int .i64 b)=>some (a,b)
 | _,_=>none
def minmax (mx:Bool):List AV→Option AV
 | [.int .i64 a,.int .i64 b]=>some (.int .i64 (if mx then max a b else min a b))
 | [.int .i64 a,.int .i64 b,.int .i64 c]=>some (.int .i64 (if mx then max (max a b) c else min (min a b) c))
 | _=>none
def cellsOf:AV→List AV
 | .agg cs=>cs
 | v=>[v]
def setAt (cs:List AV) (off:Nat) (vs:List AV):List AV:=cs.take off++vs++cs.drop (off+vs.length)
def v0 (hp:Hp):AV→AV
 | .row id=>match hgt hp id with
  | .row _ d=>.dat d
  | _=>.any
 | .int k n=>.int k n
 | .u8 b=>.u8 b
 | .bool b=>.bool b
 | .str l=>.str l
 | .val v=>.val v
 | .nilS=>.nilS
 | .err b=>.err b
 | .dat d=>.dat d
 | .dep d i off=>.dep d i off
 | _=>.any
def view1 (hp:Hp):AV→AV
 | .ptr id off=>match hgt hp id with
  | .box _ cs=>.rbp (cs.map (v0 hp)) off
  | _=>.any
 | .rbp cs off=>.rbp (cs.map (v0 hp)) off
 | v=>v0 hp v
def view (hp:Hp):AV→AV
 | .agg cs=>.agg (cs.map (view1 hp))
 | .fn f first caps=>.fn f (first.map (view1 hp)) (caps.map (view1 hp))
 | v=>view1 hp v
def noRef0:AV→Bool
 | .any | .u8 _ | .int .. | .bool _ | .str _ | .val _ | .nilS | .dat _ | .dep .. | .own .. | .err _ | .slb _=>true
 | _=>false
def noRef1:AV→Bool
 | .rbp cs _=>cs.all noRef0
 | v=>noRef0 v
def noRef:AV→Bool
 | .agg cs=>cs.all noRef1
 | .pb cs=>cs.all noRef1
 | .fn _ fs cs=>fs.all noRef1&&cs.all noRef1
 | v=>noRef1 v
def scR0:AV→Bool
 | .u8 _ | .int .. | .bool _ | .str _ | .val _ | .nilS | .err _=>true
 | _=>false
def scR1:AV→Bool
 | .agg cs=>cs.all scR0
 | v=>scR0 v
def scR:AV→Bool
 | .tup cs=>cs.all scR1
 | v=>scR1 v
def plR0:AV→Bool
 | .u8 _ | .int .. | .bool _ | .str _ | .val _ | .nilS | .dat _ | .err _=>true
 | _=>false
def plR1:AV→Bool
 | .agg cs=>cs.all plR0
 | v=>plR0 v
def plR:AV→Bool
 | .tup cs=>cs.all plR1
 | v=>plR1 v
def okRes0:AV→Bool
 | .u8 _ | .int .. | .bool _ | .str _ | .val _ | .nilS | .err _ | .slb _=>true
 | .own o _=>o
 | _=>false
def okRes1:AV→Bool
 | .agg cs=>cs.all okRes0
 | v=>okRes0 v
def okResB:AV→Bool
 | .pb cs=>cs.all okRes1
 | v=>okRes1 v
def okRes:AV→Bool
 | .tup cs | .pb cs=>cs.all okRes1
 | .fn _ [] cs=>cs.all okResB
 | v=>okRes1 v
def isC (hp:Hp):AV→Bool
 | .rbp .. | .u8 _ | .int .. | .bool _ | .str _ | .nilS | .dat _ | .dep .. | .fn .. | .err _=>true
 | .val v=>v.oneCell'
 | .row id=>match hgt hp id with | .row ..=>true | .hol ..=>true | .zip ..=>true | _=>false
 | .ptr id _=>match hgt hp id with | .box ..=>true | _=>false
 | .elp id _ _=>match hgt hp id with | .row ..=>true | .hol ..=>true | _=>false
 | _=>false
def areC (hp:Hp):List AV→Bool
 | []=>true
 | c :: cs=>isC hp c&&areC hp cs
def isAggV:AV→Bool
 | .agg _=>true
 | _=>false
def norm:PS→AV→AV
 | .sl k,v=>match asL k v with
  | some (l,_)=>.dat ⟨k,l⟩
  | none=>v
 | .st k,.agg cs=>match elemMk k cs with
  | some (x,_)=>.agg (elemCells k x)
  | none=>.agg cs
 | _,v=>v
def normAll:List PS→List AV→List AV
 | p :: ps,v :: vs=>norm p v :: normAll ps vs
 | [],vs=>vs
 | _,[]=>[]
def buildC (hp:Hp) (fs:List (Nat × Nat × Bool)):List AV→List (Nat × AV)→Option (List AV)
 | cs,[]=>some cs
 | cs,(i,v) :: r=>match fs[i]? with
  | some (fo,sz,_)=>if (isAggV v || isC hp v)&&decide ((cellsOf v).length=sz)&&decide (fo+sz≤cs.length) then buildC hp fs (setAt cs fo (cellsOf v)) r else none
  | none=>none
def hideC (o:Bool):AV→AV
 | .dat d=>bif o then .any else .dat d
 | v=>v
def litB:List Gho→Bool
 | []=>false
 | g :: l=>match g with
  | .lit=>true
  | _=>litB l
def litOn (E:Env):Option Tmp→Bool
 | some d=>litB (E.gh d)
 | none=>false
def litE:(k:K)→AV→Option k.den
 | .str,.str s=>some s
 | .int,.int .i64 n=>some n
 | .attr,.agg [.str a,.str b]=>some ⟨a,b⟩
 | .rule,.agg [.int .i64 s,.str m,.dat ⟨.str,l⟩]=>some ⟨s,m,l⟩
 | .node,.agg [.int .i64 k,.int .i64 s,.str m,.str t,.dat ⟨.attr,a⟩,.dat ⟨.node,ks⟩]=>some (.mk k s m t a ks)
 | _,_=>none
def litS (k:K) (len:Nat) (l:List (Nat × AV)):Option (Option Prop × AV) :=
 match len,l with
 | 1,[(0,v)]=>(litE k v).map fun x=>(none,.dat ⟨k,[x]⟩)
 | _,_=>none
def stepP (E:Env) (o:Oper) (e:Operand→AV) (hp:Hp):Option (Option Prop × AV) :=
 match o.op with
 | .move x=>some (none,e x)
 | .assign x=>some (none,e x)
 | .pick c a b=>pickV (e c) (e a) (e b)
 | .load t x=>match e x with
  | .dep d i off=>(ldC (E.td t) (elemCells d.k (d.get i)) off).map fun v=>(none,v)
  | .ptr id off=>match hgt hp id with
   | .box _ cs=>(ldC (E.td t) cs off).map fun v=>(none,v)
   | _=>none
  | .rbp cs off=>(ldC (E.td t) cs off).map fun v=>(none,v)
  | .elp id i off=>match hgt hp id with
   | .row o d=>(ldC (E.td t) ((elemCells d.k (d.get i)).map (hideC o)) off).map fun v=>(none,v)
   | .hol _ j cs=>if j=i then (ldC (E.td t) cs off).map fun v=>(none,v) else none
   | _=>none
  | .zlp id id2 off=>match hgt hp id with
   | .zip _ _ j cs=>if j=id2 then (ldC (E.td t) cs off).map fun v=>(none,v) else none
   | _=>none
  | _=>none
 | .nilCheck x=>match e x with
  | .ptr id off=>if isC hp (.ptr id off) then some (none,.ptr id off) else none
  | .dep d i off=>some (none,.dep d i off)
  | .rbp cs off=>some (none,.rbp cs off)
  | .elp id i off=>if isC hp (.elp id i off) then some (none,.elp id i off) else none
  | .zp id id2 l p=>some (some ((atP l p).isNone=false),.zlp id id2 0)
  | .zlp id id2 off=>some (none,.zlp id id2 off)
  | _=>none
 | .binOp op ty x y _=>binX (E.td ty) (E.eqt ty) (isK y) op (e x) (e y) hp
 | .unOp op _ x=>match op,e x with
  | .not,.bool b=>some (none,.bool (!b))
  | .neg,.int .i64 n=>some (some (i64ok (-n)),.int .i64 (-n))
  | _,_=>none
 | .makeFunc (.func f) first caps=>some (none,.fn f (first.toList.map e) (caps.toList.map e))
 | .slice t x lo hi none=>match E.td t,e x with
  | .one (.str _),.str l=>match obnd l.length (lo.map e) (hi.map e) with
   | some (a,b)=>some (some (0≤a∧a≤b∧b≤(l.length:Nat)),.str (cut l a b))
   | none=>none
  | .sl k,.dat d=>if k=d.k then match obnd d.l.length (lo.map e) (hi.map e) with
   | some (a,b)=>some (some (0≤a∧a≤b∧b≤(d.l.length:Nat)),.dat ⟨d.k,cut d.l a b⟩)
   | none=>none
   else none
  | .sl k,.row id=>match lo.map e,hi with
   | some (.int .i64 n),none=>match hgt hp id with
    | .row _ d=>if k=d.k then some (some (0≤n∧n≤(d.l.length:Nat)),.rsb id n) else none
    | _=>none
   | _,_=>none
  | _,_=>none
 | .fieldAddr S x f=>match fieldOf (E.td S) f,e x with
  | some (fo,_,_),.dep d i off=>some (none,.dep d i (off+fo))
  | some (fo,_,_),.rbp cs off=>some (none,.rbp cs (off+fo))
  | some (fo,_,_),.ptr id off=>if isC hp (.ptr id off) then some (none,.ptr id (off+fo)) else none
  | some (fo,_,_),.elp id i off=>if isC hp (.elp id i off) then some (none,.elp id i (off+fo)) else none
  | some (fo,_,_),.zlp id id2 off=>some (none,.zlp id id2 (off+fo))
  | _,_=>none
 | .field S x f=>match fieldOf (E.td S) f,e x with
  | some (fo,sz,isAgg),.agg cs=>if isAgg then some (none,.agg ((cs.drop fo).take sz)) else (cs[fo]?).map fun v=>(none,v)
  | _,_=>none
 | .indexAddr t x i=>match E.td t,e x,e i with
  | .sl k,.dat d,.int .i64 n=>if k=d.k then some (some (0≤n∧n < (d.l.length:Nat)),.dep d n 0) else none
  | .sl k,.row id,.int .i64 n=>match hgt hp id with
   | .row _ d=>if k=d.k then some (some (0≤n∧n < (d.l.length:Nat)),.elp id n 0) else none
   | .hol d _ _=>if k=d.k then some (some (0≤n∧n < (d.l.length:Nat)),.elp id n 0) else none
   | _=>none
  | _,_,_=>none
 | .index t x i=>match E.td t,e x,e i with
  | .one (.str _),.str l,.int .i64 n=>some (some (0≤n∧n < (l.length:Nat)),.u8 (byteAt l n))
  | .one (.str _),.str l,.u8 b=>some (some (b.toNat < l.length),.u8 (byteAt l (b.toNat:Nat)))
  | _,_,_=>none
 | .extract x i=>match e x with
  | .tup vs=>(vs[i]?).map fun v=>(none,v)
  | _=>none
 | .convert src dst x=>match E.td src,E.td dst,e x with
  | .one (.str _),.one (.str _),.str l=>some (none,.str l)
  | .sl .u8,.one (.str _),.dat ⟨.u8,l⟩=>some (none,.str l)
  | .sl .u8,.one (.str _),.row id=>match hgt hp id with
   | .row _ ⟨.u8,l⟩=>some (none,.str l)
   | _=>none
  | .one (.int _ _),.one (.int .i64 _),.int .i64 n=>some (some (i64ok n),.int .i64 n)
  | .one (.int _ _),.one (.int .i64 _),.u8 b=>some (none,.int .i64 (b.toNat:Nat))
  | .one (.int _ _),.one (.int .u8 _),.int .i64 n=>some (some (u8ok n),.u8 (UInt8.ofNat n.toNat))
  | .one (.int _ _),.one (.int .u8 _),.u8 b=>some (none,.u8 b)
  | _,_,_=>none
 | .build t parts=>match E.td t with
  | .st _ fs z=>(buildC hp fs (z.map AV.zr) (parts.toList.map fun p=>(p.1,e p.2))).map fun cs=>(none,.agg cs)
  | _=>none
 | .call ⟨.value f,args,_⟩=>match e f with
  | .fn g first caps=>match E.cal g with
   | some sp=>if sp.pure then
     match sp.run (normAll sp.ps ((first++args.toList.map e++caps).map (view hp))) with
     | some (p,r,_)=>if scR r || (plR r&&(first++args.toList.map e++caps).all noRef) then some (p,r) else none
     | none=>none
    else none
   | none=>none
  | _=>none
 | .buildSlice t len parts=>if litOn E o.dst then match E.td t with
   | .sl k=>litS k len (parts.toList.map fun p=>(p.1,e p.2))
   | _=>none
  else none
 | .call ⟨.builtin .len,args,ats⟩=>match args.toList,ats.toList with
  | [x],[t]=>lenV (E.td t) hp (e x)
  | _,_=>none
 | .call ⟨.builtin .min,args,_⟩=>(minmax false (args.toList.map e)).map fun v=>(none,v)
 | .call ⟨.builtin .max,args,_⟩=>(minmax true (args.toList.map e)).map fun v=>(none,v)
 | _=>none
def take0:AV→Hp→AV × Hp
 | .row id,hp=>match hgt hp id with
  | .row o d=>(.own o d,hput id .dead hp)
  | _=>(.any,hp)
 | v,hp=>(v,hp)
def takeC:List AV→Hp→List AV × Hp
 | [],hp=>([],hp)
 | v :: vs,hp=>((take0 v hp).1 :: (takeC vs (take0 v hp).2).1,(takeC vs (take0 v hp).2).2)
def take1:AV→Hp→AV × Hp
 | .agg cs,hp=>(.agg (takeC cs hp).1,(takeC cs hp).2)
 | v,hp=>take0 v hp
def takeL:List AV→Hp→List AV × Hp
 | [],hp=>([],hp)
 | v :: vs,hp=>((take1 v hp).1 :: (takeL vs (take1 v hp).2).1,(takeL vs (take1 v hp).2).2)
def takeV:AV→Hp→AV × Hp
 | .tup cs,hp=>(.tup (takeL cs hp).1,(takeL cs hp).2)
 | v,hp=>take1 v hp
def takeVL:List AV→Hp→List AV × Hp
 | [],hp=>([],hp)
 | v :: vs,hp=>((takeV v hp).1 :: (takeVL vs (takeV v hp).2).1,(takeVL vs (takeV v hp).2).2)
def pl0:AV→AV
 | .own ..=>.any
 | .agg _=>.any
 | .tup _=>.any
 | .pb _=>.any
 | .fn ..=>.any
 | v=>v
def bind0:AV→Hp→Nat→AV × Hp × Nat
 | .own o d,hp,n=>(.row n,hput n (.row o d) hp,n+1)
 | .fn f [] cs,hp,n=>(.fn f [] (cs.map pl0),hp,n)
 | .agg _,hp,n=>(.any,hp,n)
 | .tup _,hp,n=>(.any,hp,n)
 | .pb _,hp,n=>(.any,hp,n)
 | v,hp,n=>(v,hp,n)
def bindC:List AV→Hp→Nat→List AV × Hp × Nat
 | [],hp,n=>([],hp,n)
 | v :: vs,hp,n=>((bind0 v hp n).1 :: (bindC vs (bind0 v hp n).2.1 (bind0 v hp n).2.2).1,(bindC vs (bind0 v hp n).2.1 (bind0 v hp n).2.2).2)
def bind1:AV→Hp→Nat→AV × Hp × Nat
 | .agg cs,hp,n=>(.agg (bindC cs hp n).1,(bindC cs hp n).2)
 | v,hp,n=>bind0 v hp n
def bindL:List AV→Hp→Nat→List AV × Hp × Nat
 | [],hp,n=>([],hp,n)
 | v :: vs,hp,n=>((bind1 v hp n).1 :: (bindL vs (bind1 v hp n).2.1 (bind1 v hp n).2.2).1,(bindL vs (bind1 v hp n).2.1 (bind1 v hp n).2.2).2)
def bindV:AV→Hp→Nat→AV × Hp × Nat
 | .tup cs,hp,n=>(.tup (bindL cs hp n).1,(bindL cs hp n).2)
 | v,hp,n=>bind1 v hp n
def bindVL:List AV→Hp→Nat→List AV × Hp × Nat
 | [],hp,n=>([],hp,n)
 | v :: vs,hp,n=>((bindV v hp n).1 :: (bindVL vs (bindV v hp n).2.1 (bindV v hp n).2.2).1,(bindVL vs (bindV v hp n).2.1 (bindV v hp n).2.2).2)
def ownCell (o:Bool):AV→AV
 | .dat d=>bif o then .own true d else .dat d
 | v=>v
def szT:TD→Nat→Bool
 | .one _,n=>n == 1
 | .sl _,n=>n == 1
 | .st m _ _,n=>n == m
 | .unk,_=>false
def mkElems (k:K) (len:Nat):Nat→List (Nat × AV)→Hp→Option (List k.den × Bool × Hp)
 | i,[],hp=>if i=len then some ([],true,hp) else none
 | i,(j,v) :: r,hp=>if i=j then
   match takeL (cellsOf v) hp with
   | (cs,hp)=>match elemMk k cs with
    | some (x,o)=>match mkElems k len (i+1) r hp with
     | some (xs,o',hp)=>some (x :: xs,o&&o',hp)
     | none=>none
    | none=>none
  else none
def K.flat:K→Bool
 | .u8 | .str | .int | .bool | .attr | .answ | .opn=>true
 | _=>false
def appSrc:(k:K)→AV→Hp→Option (List k.den × Bool × Hp)
 | .u8,.str l,hp=>some (l,true,hp)
 | k,.row id,hp=>match hgt hp id with
  | .row o d=>(d.asK k).map fun l=>(l,o,if k.flat then hp else hput id .dead hp)
  | _=>none
 | k,.dat d,hp=>(d.asK k).map fun l=>(l,k.flat,hp)
 | _,.nilS,hp=>some ([],true,hp)
 | _,_,_=>none
def srcT (k:K):TD→Bool
 | .sl j=>k == j
 | .one (.str _)=>k == .u8
 | _=>false
abbrev sizeOk (n:Nat):Prop:=n≤1073741824
def out0:AV→AV
 | .u8 b=>.u8 b
 | .int k n=>.int k n
 | .bool b=>.bool b
 | .str l=>.str l
 | .val v=>.val v
 | .nilS=>.nilS
 | .dat d=>.dat d
 | .dep d i off=>.dep d i off
 | .own o d=>.own o d
 | .slb T=>.slb T
 | _=>.any
def out1:AV→AV
 | .agg cs=>.agg (cs.map out0)
 | v=>out0 v
def sfo (id:Nat):AV→AV
 | .slf j T=>if j=id then .slb T else .any
 | .slb _=>.any
 | v=>v
def slo (id:Nat):AV→AV
 | .slb T=>.slf id T
 | .slf _ _=>.any
 | v=>v
def passB (v:AV) (hp:Hp):AV × Hp :=
 match v with
 | .ptr id 0=>match hgt hp id with
  | .box _ cs=>(.pb ((takeL cs (hput id .dead hp)).1.map fun c=>out1 (sfo id c)),(takeL cs (hput id .dead hp)).2)
  | _=>(.any,hp)
 | v=>(out1 (take1 v hp).1,(take1 v hp).2)
def passBL:List AV→Hp→List AV × Hp
 | [],hp=>([],hp)
 | v :: vs,hp=>((passB v hp).1 :: (passBL vs (passB v hp).2).1,(passBL vs (passB v hp).2).2)
def pass1 (m:Md) (p:PS) (v:AV) (hp:Hp):AV × Hp :=
 match v with
 | .ptr id 0=>match m with
  | .io=>passB (.ptr id 0) hp
  | _=>(.any,hp)
 | .fn f [] cs=>match m with
  | .io=>(.fn f [] (passBL cs hp).1,(passBL cs hp).2)
  | _=>(.any,hp)
 | .nilS=>match p with
  | .sl k=>(.own true ⟨k,[]⟩,hp)
  | _=>(.nilS,hp)
 | v=>(out1 (take1 v hp).1,(take1 v hp).2)
def passT:List Md→List PS→List AV→Hp→List AV × Hp
 | m :: ms,p :: ps,v :: vs,hp=>match m with
  | .rd=>(v :: (passT ms ps vs hp).1,(passT ms ps vs hp).2)
  | m=>((pass1 m p v hp).1 :: (passT ms ps vs (pass1 m p v hp).2).1,(passT ms ps vs (pass1 m p v hp).2).2)
 | _,_,vs,hp=>(vs,hp)
def passV:List Md→List PS→List AV→Hp→List AV
 | m :: ms,p :: ps,v :: vs,hp=>(match m with
  | .rd=>norm p (view hp v)
  | _=>v) :: passV ms ps vs hp
 | _,_,vs,hp=>vs.map (view hp)
def noRefM:List Md→List PS→List AV→Bool
 | m :: ms,_ :: ps,v :: vs=>(match m with
  | .rd=>noRef v
  | _=>true)&&noRefM ms ps vs
 | _,_,vs=>vs.all noRef
def back0 (h0:Hp) (v o:AV) (hp:Hp) (n:Nat):Hp × Nat :=
 match v,o with
 | .ptr id 0,.pb cs=>match hgt h0 id,hgt hp id with
  | .box t _,.dead=>(hput id (.box t ((bindL cs hp n).1.map (slo id))) (bindL cs hp n).2.1,(bindL cs hp n).2.2)
  | _,_=>(hp,n)
 | .row id,.own o d=>match hgt h0 id,hgt hp id with
  | .row _ d0,.dead=>if d.k=d0.k then (hput id (.row o d) hp,n) else (hp,n)
  | _,_=>(hp,n)
 | _,_=>(hp,n)
def backF (h0:Hp):List AV→List AV→Hp→Nat→Hp × Nat
 | v :: vs,o :: os,hp,n=>backF h0 vs os (back0 h0 v o hp n).1 (back0 h0 v o hp n).2
 | _,_,hp,n=>(hp,n)
def back1 (h0:Hp) (v o:AV) (hp:Hp) (n:Nat):Hp × Nat :=
 match v,o with
 | .fn _ [] vs,.fn _ [] os=>backF h0 vs os hp n
 | v,o=>back0 h0 v o hp n
def backL (h0:Hp):List AV→List AV→Hp→Nat→Hp × Nat
 | v :: vs,o :: os,hp,n=>backL h0 vs os (back1 h0 v o hp n).1 (back1 h0 v o hp n).2
 | _,_,hp,n=>(hp,n)
def backV (h0:Hp) (v o:AV) (hp:Hp) (n:Nat):Hp × Nat :=
 match v,o with
 | .agg vs,.agg os=>backL h0 vs os hp n
 | v,o=>back1 h0 v o hp n
def backA (h0:Hp):List Md→List AV→List AV→Hp→Nat→Hp × Nat
 | m :: ms,v :: vs,outs,hp,n=>match m with
  | .io=>match outs with
   | o :: outs=>backA h0 ms vs outs (backV h0 v o hp n).1 (backV h0 v o hp n).2
   | []=>(hp,n)
  | _=>backA h0 ms vs outs hp n
 | _,_,_,hp,n=>(hp,n)
def callH (sp:Spec) (as:List AV) (hp:Hp) (nx:Nat):Option (Option Prop × AV × Hp × Nat) :=
 match passT sp.modes sp.ps as hp with
 | (ts,hp1)=>match sp.run (passV sp.modes sp.ps ts hp1) with
  | some (p,r,outs)=>if (okRes r&&outs.all okRes) || noRefM sp.modes sp.ps ts then
    match bindV r hp1 nx with
    | (r,hp2,n2)=>match backA hp sp.modes as outs hp2 n2 with
     | (hp3,n3)=>some (p,r,hp3,n3)
   else none
  | none=>none
def fndH (as:List AV) (hp:Hp) (nx:Nat):Option (Option Prop × AV × Hp × Nat) :=
 match as with
 | [.row id,y]=>match hgt hp id,view hp y with
  | .row true ⟨.node,l⟩,.dat ⟨.int,p⟩=>some (some (lenZ l p∧p.length≤1073741824),.zp id nx l p,
    hput id (.zip l p nx (bindC ((elemCells .node (atN l p)).map (ownCell true)) (hput id .dead hp) (nx+1)).1) (bindC ((elemCells .node (atN l p)).map (ownCell true)) (hput id .dead hp) (nx+1)).2.1,
    (bindC ((elemCells .node (atN l p)).map (ownCell true)) (hput id .dead hp) (nx+1)).2.2)
  | _,_=>none
 | _=>none
def slfZ (n:Nat) (t:TypeId) (l:List AV):List AV:=match l with
 | .val (.pointer none) :: r=>.slf n t :: r
 | l=>l
def noSlf:AV→AV
 | .slf _ _=>.any
 | v=>v
def nil0:Nat→List AV→Bool
 | 0,.val (.pointer none) :: _=>true
 | _,_=>false
def setAtS (cs:List AV) (off:Nat) (vs:List AV):List AV:=match cs with
 | .slf i T :: _=>bif nil0 off vs then .slf i T :: (setAt cs off vs).tail else setAt cs off vs
 | _=>setAt cs off vs
def stepH (E:Env) (o:Oper) (e:Operand→AV) (hp:Hp) (nx:Nat):Option (Option Prop × AV × Hp × Nat) :=
 match o.op with
 | .load t x=>match E.td t,e x with
  | .sl _,.elp id i off=>match hgt hp id with
   | .row true d=>((bindC ((elemCells d.k (d.get i)).map (ownCell true)) (hput id .dead hp) nx).1[off]?).map fun v=>(none,v,
     hput id (.hol d i (bindC ((elemCells d.k (d.get i)).map (ownCell true)) (hput id .dead hp) nx).1) (bindC ((elemCells d.k (d.get i)).map (ownCell true)) (hput id .dead hp) nx).2.1,
     (bindC ((elemCells d.k (d.get i)).map (ownCell true)) (hput id .dead hp) nx).2.2)
   | _=>none
  | _,_=>none
 | .alloc t=>match E.td t with
  | .one z=>if isC [] z then some (none,.ptr nx 0,hput nx (.box t [z.zr]) hp,nx+1) else none
  | .st _ _ z=>some (none,.ptr nx 0,hput nx (.box t (slfZ nx t (z.map AV.zr))) hp,nx+1)
  | .sl _=>some (none,.ptr nx 0,hput nx (.box t [.nilS]) hp,nx+1)
  | .unk=>none
 | .box t x=>if isAggV (e x) || isC hp (e x) then some (none,.ptr nx 0,hput nx (.box t ((cellsOf (e x)).map noSlf)) hp,nx+1) else none
 | .buildSlice t len parts=>match E.td t with
  | .sl k=>if len≤65536 then
    match mkElems k len 0 (parts.toList.map fun p=>(p.1,e p.2)) hp with
    | some (xs,own,hp)=>some (none,.row nx,hput nx (.row own ⟨k,xs⟩) hp,nx+1)
    | none=>none
   else none
  | _=>none
 | .makeSlice t l c=>match E.td t,e l,e c with
  | .sl k,.int .i64 n,.int .i64 m=>some (some (0≤n∧n≤m∧sizeOk m.toNat),.row nx,hput nx (.row true ⟨k,List.replicate n.toNat k.dflt⟩) hp,nx+1)
  | _,_,_=>none
 | .convert src dst x=>match E.td src,E.td dst,e x with
  | .one (.str _),.sl .u8,.str l=>some (some (sizeOk l.length),.row nx,hput nx (.row true ⟨.u8,l⟩) hp,nx+1)
  | _,_,_=>none
 | .store t a x=>if szT (E.td t) (cellsOf (e x)).length then match e a with
  | .ptr id off=>match hgt hp id with
   | .box t cs=>if (isAggV (e x) || isC hp (e x))&&areC hp (cellsOf (e x))&&decide (off+(cellsOf (e x)).length≤cs.length) then some (none,.any,hput id (.box t (setAtS cs off (cellsOf (e x)))) (hput id .dead hp),nx) else none
   | _=>none
  | .elp id i off=>match hgt hp id with
   | .row o d=>match takeL (cellsOf (e x)) (hput id .dead hp) with
    | (vs,hp)=>match elemMk d.k (setAt ((elemCells d.k (d.get i)).map (ownCell o)) off vs) with
     | some (y,o')=>if decide (off+vs.length≤d.k.esz) then some (none,.any,hput id (.row (o&&o') ⟨d.k,d.l.set i.toNat y⟩) hp,nx) else none
     | none=>none
   | .hol d j cs=>if j=i then (if (isAggV (e x) || isC hp (e x))&&areC hp (cellsOf (e x))&&decide (off+(cellsOf (e x)).length≤cs.length) then some (none,.any,hput id (.hol d j (setAt cs off (cellsOf (e x)))) (hput id .dead hp),nx) else none) else none
   | _=>none
  | .zlp id id2 off=>match hgt hp id with
   | .zip l p j cs=>if j=id2 then (if (isAggV (e x) || isC hp (e x))&&areC hp (cellsOf (e x))&&decide (off+(cellsOf (e x)).length≤cs.length) then some (none,.any,hput id (.zip l p j (setAt cs off (cellsOf (e x)))) (hput id .dead hp),nx) else none) else none
   | _=>none
  | _=>none
  else none
 | .slice t x none (some y) none=>match E.td t,e x,e y with
  | .sl k,.row id,.int .i64 n=>match hgt hp id with
   | .row o d=>if k=d.k then some (some (0≤n∧n≤(d.l.length:Nat)),.row nx,hput nx (.row o ⟨d.k,d.l.take n.toNat⟩) (hput id .dead hp),nx+1) else none
   | .hol d j _=>if k=d.k then some (some (0≤n∧n≤(d.l.length:Nat)∧n≤j),.row nx,hput nx (.row true ⟨d.k,d.l.take n.toNat⟩) (hput id .dead hp),nx+1) else none
   | _=>none
  | _,_,_=>none
 | .call ⟨.builtin .clear,args,ats⟩=>match args.toList.map e,ats.toList with
  | [.rsb id n],[t]=>match E.td t,hgt hp id with
   | .sl k,.row o d=>if k=d.k then some (none,.tup [],hput id (.row o ⟨d.k,d.l.take n.toNat++List.replicate (d.l.length - n.toNat) d.k.dflt⟩) (hput id .dead hp),nx) else none
   | _,_=>none
  | _,_=>none
 | .call ⟨.builtin .append,args,ats⟩=>match args.toList.map e,ats.toList with
  | [s,x],[t,tx]=>match E.td t with
   | .sl k=>if srcT k (E.td tx) then match s with
    | .row id=>match hgt hp id with
     | .row o d=>if d.k=k then match appSrc d.k x (hput id .dead hp) with
       | some (l,o',hp)=>some (some (sizeOk (d.l.length+l.length)),.row nx,hput nx (.row (o&&o') ⟨d.k,d.l++l⟩) hp,nx+1)
       | none=>none
      else none
     | _=>none
    | .nilS=>match appSrc k x hp with
     | some (l,o',hp)=>some (some (sizeOk l.length),.row nx,hput nx (.row o' ⟨k,l⟩) hp,nx+1)
     | none=>none
    | _=>none
    else none
   | _=>none
  | _,_=>none
 | .call ⟨.value f,args,_⟩=>match e f with
  | .fn g first caps=>match E.cal g with
   | some sp=>callH sp (first++args.toList.map e++caps) hp nx
   | none=>bif E.fnd g then fndH (first++args.toList.map e++caps) hp nx else none
  | _=>none
 | _=>none
def put (fr:Fr):Option Nat→AV→Fr
 | some d,v=>(d,v) :: fr
 | none,_=>fr
inductive It where
 | code (c:Code)
 | ops (all os:List Oper)
 | inB (id:Nat)
 | back (live bx:List Nat) (I:Nat→List AV→List (List AV)→Prop) (n:Nat)
 | join (live bx:List Nat) (M:List AV→List (List AV)→Prop)
def opnH (id:Nat) (i:Int) (s:St):St :=
 match hgt s.hp id with
 | .row true d=>⟨s.fr,hput id (.hol d i (bindC ((elemCells d.k (d.get i)).map (ownCell true)) (hput id .dead s.hp) s.nx).1) (bindC ((elemCells d.k (d.get i)).map (ownCell true)) (hput id .dead s.hp) s.nx).2.1,(bindC ((elemCells d.k (d.get i)).map (ownCell true)) (hput id .dead s.hp) s.nx).2.2⟩
 | _=>s
def clsH (id:Nat) (hp:Hp):Hp :=
 match hgt hp id with
 | .hol d i cs=>match takeC cs (hput id .dead hp) with
  | (vs,hp')=>match elemMk d.k vs with
   | some (x,o)=>hput id (.row o ⟨d.k,d.l.set i.toNat x⟩) hp'
   | none=>hp
 | _=>hp
def zclH (id:Nat) (hp:Hp):Hp :=
 match hgt hp id with
 | .zip l p _ cs=>match takeC cs (hput id .dead hp) with
  | (vs,hp')=>match elemMk .node vs with
   | some (x,o)=>bif o then hput id (.row true ⟨.node,putP l p x⟩) hp' else hp
   | none=>hp
 | _=>hp
def zclL:List Nat→Hp→Hp
 | [],hp=>hp
 | id :: ids,hp=>zclL ids (zclH id hp)
def clsL:List Nat→Hp→Hp
 | [],hp=>hp
 | id :: ids,hp=>clsL ids (clsH id hp)
def hasHol:Hp→Bool
 | []=>false
 | (_,.hol ..) :: _=>true
 | _ :: hp=>hasHol hp
def hids:Hp→List Nat→List Nat
 | [],acc=>acc
 | (i,_) :: hp,acc=>hids hp (i :: acc)
def clsS (s:St):St:=bif hasHol s.hp then ⟨s.fr,clsL (hids s.hp []) s.hp,s.nx⟩ else s
def frzS (t:Nat) (s:St):St :=
 match gt s.fr t with
 | .row id=>match hgt s.hp id with
  | .row _ d=>⟨(t,.dat d) :: s.fr,hput id .dead s.hp,s.nx⟩
  | _=>s
 | _=>s
def opnS (v:AV) (s:St):St :=
 match v with
 | .elp id i _=>opnH id i s
 | _=>s
def nilO (k:K) (t:Nat) (s:St):St :=
 match gt s.fr t with
 | .nilS=>⟨(t,.row s.nx) :: s.fr,hput s.nx (.row true ⟨k,[]⟩) s.hp,s.nx+1⟩
 | _=>s
def nthA:List AV→Nat→AV
 | [],_=>.any
 | c :: r,n=>if n=0 then c else nthA r (n - 1)
def setA:List AV→Nat→AV→List AV
 | [],_,_=>[]
 | c :: r,n,v=>if n=0 then v :: r else c :: setA r (n - 1) v
def nibO (k:K) (t f:Nat) (s:St):St :=
 match gt s.fr t with
 | .ptr id 0=>match hgt s.hp id with
  | .box ty cs=>match nthA cs f with
   | .nilS=>⟨s.fr,hput id (.box ty (setA cs f (.row s.nx))) (hput s.nx (.row true ⟨k,[]⟩) (hput id .dead s.hp)),s.nx+1⟩
   | _=>s
  | _=>s
 | _=>s
def nidO (k:K) (t:Nat) (s:St):St :=
 match gt s.fr t with
 | .nilS=>⟨(t,.dat ⟨k,[]⟩) :: s.fr,s.hp,s.nx⟩
 | _=>s
def nbdO (k:K) (t f:Nat) (s:St):St :=
 match gt s.fr t with
 | .ptr id 0=>match hgt s.hp id with
  | .box ty cs=>match nthA cs f with
   | .nilS=>⟨s.fr,hput id (.box ty (setA cs f (.dat ⟨k,[]⟩))) (hput id .dead s.hp),s.nx⟩
   | _=>s
  | _=>s
 | _=>s
def drpS (v:AV) (s:St):St:=match v with
 | .row id=>⟨s.fr,hput id .dead s.hp,s.nx⟩
 | _=>s
def ghoS:Gho→St→St
 | .opn t,s=>opnS (gt s.fr t) s
 | .cls t,s=>match gt s.fr t with
  | .row id=>⟨s.fr,clsH id s.hp,s.nx⟩
  | _=>s
 | .frz t,s=>frzS t s
 | .nil k t,s=>nilO k t s
 | .nib k t f,s=>nibO k t f s
 | .zcl,s=>⟨s.fr,zclL (hids s.hp []) s.hp,s.nx⟩
 | .nid k t,s=>nidO k t s
 | .nbd k t f,s=>nbdO k t f s
 | .drp t,s=>drpS (gt s.fr t) s
 | .lit,s=>s
def ghoL:List Gho→St→St
 | [],s=>s
 | g :: gs,s=>ghoL gs (ghoS g s)
def autoO (E:Env) (o:Op) (s:St):St :=
 match o with
 | .load t x=>match E.td t with
  | .sl _=>opnS (ev s.fr x) s
  | _=>s
 | _=>s
def preO (E:Env) (o:Op) (dst:Option Tmp) (s:St):St :=
 match dst with
 | some d=>autoO E o (ghoL (E.gh d) s)
 | none=>autoO E o s
def preR (E:Env) (id:Nat) (s:St):St:=ghoL (E.gh (1000000+id)) s
def endS (E:Env) (s:St):St:=ghoL (E.gh 2000000) s
inductive Gst:St→St→Prop
 | opn {s} (x:Operand):Gst s (opnS (ev s.fr x) s)
 | cls {s} (id:Nat):Gst s ⟨s.fr,clsH id s.hp,s.nx⟩
 | frz {s} (t:Nat):Gst s (frzS t s)
 | nil {s} (k:K) (t:Nat):Gst s (nilO k t s)
 | nib {s} (k:K) (t f:Nat):Gst s (nibO k t f s)
 | zcl {s} (id:Nat):Gst s ⟨s.fr,zclH id s.hp,s.nx⟩
 | nid {s} (k:K) (t:Nat):Gst s (nidO k t s)
 | nbd {s} (k:K) (t f:Nat):Gst s (nbdO k t f s)
 | drp {s} (v:AV):Gst s (drpS v s)
 | refl {s}:Gst s s
 | trans {s s' s''} (h:Gst s s') (k:Gst s' s''):Gst s s''
def gval (all:List Oper) (fr:Fr) (j:Nat) (want:Bool):Option Bool :=
 match (all[j]?).bind (·.dst) with
 | some d=>match gt fr d with
  | .bool b=>some (b == want)
  | .opt g (.bool b)=>some (g&&(b == want))
  | _=>none
 | none=>none
def opReq (fr:Fr):List Operand→Option Prop
 | []=>none
 | x :: l=>cjo (ev fr x).req (opReq fr l)
def isPick:Op→Bool
 | .pick ..=>true
 | _=>false
def evx (o:Op) (fr:Fr) (x:Operand):AV:=if isPick o then ev fr x else (ev fr x).un
def reqx (o:Op) (fr:Fr):Option Prop:=if isPick o then none else opReq fr o.operands.toList
def stepW (E:Env) (o:Oper) (e:Operand→AV) (q:Option Prop) (s:St):Option (Option Prop × AV × Hp × Nat) :=
 match stepP E o e s.hp with
 | some (p,v)=>some (cjo q p,v,s.hp,s.nx)
 | none=>match stepH E o e s.hp s.nx with
  | some (p,v,hp,nx)=>some (cjo q p,v,hp,nx)
  | none=>none
def step (E:Env) (o:Oper) (s:St):Option (Option Prop × AV × Hp × Nat):=stepW E o (ev s.fr) none s
def exitTo' (id:Nat):List It→Option (List It)
 | []=>none
 | .inB j :: k=>if j=id then some k else exitTo' id k
 | _ :: k=>exitTo' id k
def wrO:List Oper→List Nat
 | []=>[]
 | o :: os=>match o.dst with
  | some d=>d :: wrO os
  | none=>wrO os
def wr:Code→List Nat
 | .region _ ops _=>wrO ops.toList
 | .seq a b=>wr a++wr b
 | .cond _ a b=>wr a++wr b
 | .block _ a=>wr a
 | .loop a=>wr a
 | .scope a=>wr a
 | _=>[]
def okC:Code→Bool
 | .skip | .region .. | .exit _ | .ret=>true
 | .seq a b=>okC a&&okC b
 | .cond _ a b=>okC a&&okC b
 | .block _ a=>okC a
 | .loop a=>okC a
 | _=>false
def disj (a b:List Nat):Bool:=a.all fun x=>!b.contains x
def memN:Nat→List Nat→Bool
 | _,[]=>false
 | n,m :: r=>if n=m then true else memN n r
def nodupN:List Nat→Bool
 | []=>true
 | n :: r=>!memN n r&&nodupN r
def cl0 (bx:List Nat):AV→AV
 | .u8 b=>.u8 b
 | .int k n=>.int k n
 | .bool b=>.bool b
 | .str l=>.str l
 | .val v=>.val v
 | .nilS=>.nilS
 | .dat d=>.dat d
 | .dep d i off=>.dep d i off
 | .own o d=>.own o d
 | .ptr id off=>if id < 1000000 then (if memN id bx then .ptr id off else .any) else .any
 | .slf id T=>if id < 1000000 then (if memN id bx then .slf id T else .any) else .any
 | _=>.any
def cl1 (bx:List Nat):AV→AV
 | .agg cs=>.agg (cs.map (cl0 bx))
 | .fn f fs cs=>.fn f (fs.map (cl0 bx)) (cs.map (cl0 bx))
 | v=>cl0 bx v
def clV (bx:List Nat):AV→AV
 | .tup cs=>.tup (cs.map (cl1 bx))
 | v=>cl1 bx v
def boxes:List Nat→Hp→Option (List (List AV))
 | [],_=>some []
 | id :: r,hp=>if id < 1000000 then
   match hgt hp id with
   | .box _ cs=>match boxes r hp with
    | some l=>some (cs :: l)
    | none=>none
   | _=>none
  else
   match hgt hp (id - 1000000) with
   | .row _ _=>match boxes r hp with
    | some l=>some ([.row (id - 1000000)] :: l)
    | none=>none
   | _=>none
def takeLL:List (List AV)→Hp→List (List AV) × Hp
 | [],hp=>([],hp)
 | v :: vs,hp=>((takeL v hp).1 :: (takeLL vs (takeL v hp).2).1,(takeLL vs (takeL v hp).2).2)
def bindLL:List (List AV)→Hp→Nat→List (List AV) × Hp × Nat
 | [],hp,n=>([],hp,n)
 | v :: vs,hp,n=>((bindL v hp n).1 :: (bindLL vs (bindL v hp n).2.1 (bindL v hp n).2.2).1,(bindLL vs (bindL v hp n).2.1 (bindL v hp n).2.2).2)
def meetB (bx:List Nat) (vs:List AV) (hp:Hp) (M:List AV→List (List AV)→Prop):Option (List (List AV))→Prop
 | some ls=>M (vs.map (clV bx)) ((takeLL ls hp).1.map fun l=>l.map (cl1 bx))
 | none=>False
def meet (live bx:List Nat) (s:St) (M:List AV→List (List AV)→Prop):Prop :=
 meetB bx (takeVL (live.map (gt s.fr)) s.hp).1 (takeVL (live.map (gt s.fr)) s.hp).2 M (boxes bx (takeVL (live.map (gt s.fr)) s.hp).2)
def rowBack (id:Nat) (b:List AV) (old hp:Hp):Hp :=
 match b with
 | [.row n]=>match hgt hp n,hgt old id with
  | .row o d,.row _ d0=>if d.k=d0.k then hput id (.row o d) (hput n .dead hp) else hp
  | _,_=>hp
 | _=>hp
def setBoxes:List Nat→List (List AV)→Hp→Hp→Hp
 | id :: ids,b :: bs,old,hp=>setBoxes ids bs old (if id < 1000000 then
   match hgt old id with
   | .box t _=>hput id (.box t b) hp
   | _=>hp
  else rowBack (id - 1000000) b old hp)
 | _,_,_,hp=>hp
def zipK:List Nat→List AV→Fr→Fr
 | n :: ns,v :: vs,r=>(n,v) :: zipK ns vs r
 | _,_,r=>r
def aliK (fr:Fr) (keep:List Nat) (id:Nat):List Nat→List AV→Option AV
 | m :: ms,v :: vs=>match gt fr m with
  | .row i=>if i=id then (if memN m keep then some v else aliK fr keep id ms vs) else aliK fr keep id ms vs
  | _=>aliK fr keep id ms vs
 | _,_=>none
def keepV (fr:Fr) (keep live:List Nat) (vs:List AV):AV→AV
 | .row id=>match aliK fr keep id live vs with
  | some v=>v
  | none=>.row id
 | v=>v
def keepK (fr:Fr) (keep live:List Nat) (vs:List AV):List Nat→Fr
 | []=>[]
 | n :: ns=>(n,keepV fr keep live vs (gt fr n)) :: keepK fr keep live vs ns
def part (live keep bx:List Nat) (s:St) (vs:List AV) (bs:List (List AV)):St :=
 ⟨zipK live (bindVL vs [] s.nx).1 (keepK s.fr keep live (bindVL vs [] s.nx).1 keep),setBoxes bx (bindLL bs (bindVL vs [] s.nx).2.1 (bindVL vs [] s.nx).2.2).1 s.hp (bindLL bs (bindVL vs [] s.nx).2.1 (bindVL vs [] s.nx).2.2).2.1,
  (bindLL bs (bindVL vs [] s.nx).2.1 (bindVL vs [] s.nx).2.2).2.2⟩
def meetOk (keep bx:List Nat) (c:Code) (hp:Hp):Bool:=disj keep (wr c)&&nodupN bx&&(boxes bx hp).isSome
def put1 (s:St) (d:Option Nat) (v:AV) (hp:Hp) (nx:Nat):St :=
 match d with
 | some d=>⟨(d,v) :: s.fr,hp,nx⟩
 | none=>⟨s.fr,hp,nx⟩
def bindE (e:Edge):Bool:=Region.binds .any e
def cloL:List Oper→List (List Nat)→List (List Nat)
 | [],acc=>acc
 | o :: os,acc=>cloL os (acc++[o.after.toList.flatMap fun e=>if bindE e then e.on :: acc.getD e.on [] else []])
def tmpsOf:List Operand→List Nat
 | []=>[]
 | .tmp t :: r=>t :: tmpsOf r
 | _ :: r=>tmpsOf r
def looks (all:List Oper) (o:Oper):List Nat :=
 tmpsOf o.op.operands.toList++(match o.guard with
  | some (j,_)=>match (all[j]?).bind (·.dst) with
   | some d=>[d]
   | none=>[]
  | none=>[])
def ordB (cl:List (List Nat)) (i k:Nat):Bool:=i == k || memN k (cl.getD i []) || memN i (cl.getD k [])
def wIdx:List Oper→Nat→Option Nat
 | [],_=>none
 | o :: os,t=>if o.dst=some t then some 0 else (wIdx os t).map (·+1)
def lenF (l:List Nat) (f:Nat→Bool):Nat:=(l.filter f).length
abbrev Alt:=Bool × List Nat × List (List Nat)
def Alt.ord (A:Alt):List Nat:=A.2.1
def Alt.iv (A:Alt):List (List Nat):=A.2.2
def nthO:List Oper→Nat→Option Oper
 | [],_=>none
 | o :: r,n=>if n=0 then some o else nthO r (n - 1)
def perC (o:Option Oper) (r:List Oper):List Oper:=match o with
 | some o=>o :: r
 | none=>r
def perO (all:List Oper):List Nat→List Oper
 | []=>[]
 | i :: r=>perC (nthO all i) (perO all r)
def osOf (all:List Oper) (A:Alt):List Oper:=bif A.1 then all else perO all A.2.1
def bef (ord:List Nat) (p j:Nat):Bool:=decide (ord.idxOf j < p)
def inT (cl:List (List Nat)) (hs l:List Nat) (i c:Nat):Bool:=hs.all fun h=>(!memN h (cl.getD i []) || decide (l.idxOf h < c))&&(!memN i (cl.getD h []) || decide (c≤l.idxOf h))
def drawOk1 (all:List Oper) (cl:List (List Nat)) (hs ord:List Nat) (iv:List (List Nat)):Nat→List Nat→Bool
 | _,[]=>true
 | p,i :: r =>
  (match all[i]? with
   | none=>false
   | some o =>
    ((cl.getD i []).all fun j=>bef ord p j) &&
    ((looks all o).all fun t=>match wIdx all t with | some k=>ordB cl i k | none=>true) &&
    (if memN i hs then o.guard.isNone
     else (List.range (hs.length+1)).all fun c=>!inT cl hs (ord.filter fun i=>memN i hs) i c || c == lenF hs (bef ord p) || memN c (iv.getD p []))) &&
  drawOk1 all cl hs ord iv (p+1) r
def altOk (all:List Oper) (cl:List (List Nat)) (hs:List Nat) (A:Alt):Bool :=
 nodupN A.ord&&((List.range all.length).all fun i=>memN i A.ord)&&(A.ord.all fun i=>decide (i < all.length))&&(!A.1 || A.ord == List.range all.length)&&drawOk1 all cl hs A.ord A.iv 0 A.ord
def edgeOk (all:List Oper):Nat→List Oper→Bool
 | _,[]=>true
 | i,o :: os=>(o.after.toList.all fun e=>!bindE e || decide (e.on < i))&&(match o.dst with | some d=>wIdx all d == some i | none=>true)&&edgeOk all (i+1) os
def linE (cl:List (List Nat)):Nat→List Nat→List (List Nat)
 | 0,_=>[[]]
 | n+1,rem=>rem.flatMap fun h=>if rem.all fun x=>!memN x (cl.getD h []) then (linE cl n (rem.erase h)).map (h :: ·) else []
def piOf (hs:List Nat) (A:Alt):List Nat:=A.ord.filter fun i=>memN i hs
def drawOk (all:List Oper) (hs:List Nat) (alts:List Alt):Bool :=
 nodupN hs&&(hs.all fun h=>decide (h < all.length))&&edgeOk all 0 all&&(alts.all fun A=>altOk all (cloL all []) hs A)&&(linE (cloL all []) hs.length hs).all fun l=>alts.any fun A=>piOf hs A == l
structure Rec where
 s:St
 g:Option Bool
 p:Option Prop
 v:AV
def Rec.V (r:Rec):AV:=match r.g with
 | none=>r.v
 | some g=>.opt g r.v
def bare' (o:Oper):Oper:=⟨o.dst,o.op,o.type,o.pos,o.after,none⟩
def opEv (o:Oper) (fr:Fr):Operand→AV:=match o.guard with
 | none=>ev fr
 | some _=>evx o.op fr
inductive DT (E:Env) (all:List Oper) (hs:List Nat):List Nat→List Oper→St→List Rec→List (Hp × Nat)→St→Prop
 | nil {s}:DT E all hs [] [] s [] [] s
 | p {i is o os s p v rs hps s'} (hi:memN i hs=false) (hg:o.guard=none) (hst:stepP E (bare' o) (ev s.fr) s.hp=some (p,v)) (hq:∀ q,p=some q→q)
   (h:DT E all hs is os (put1 s o.dst v s.hp s.nx) rs hps s'):DT E all hs (i :: is) (o :: os) s (⟨s,none,p,v⟩ :: rs) hps s'
 | g {i is o os s p v rs hps s' j want g} (hi:memN i hs=false) (hg:o.guard=some (j,want)) (hv:gval all s.fr j want=some g) (hst:stepP E (bare' o) (evx o.op s.fr) s.hp=some (p,v))
   (hq:g=true→∀ q,cjo (reqx o.op s.fr) p=some q→q) (h:DT E all hs is os (put1 s o.dst (.opt g v) s.hp s.nx) rs hps s'):DT E all hs (i :: is) (o :: os) s (⟨s,some g,p,v⟩ :: rs) hps s'
 | h {i is o os s p v hp nx rs hps s'} (hi:memN i hs=true) (hg:o.guard=none) (hst:stepH E (bare' o) (ev s.fr) s.hp s.nx=some (p,v,hp,nx)) (hq:∀ q,p=some q→q)
   (h:DT E all hs is os (put1 s o.dst v hp nx) rs hps s'):DT E all hs (i :: is) (o :: os) s (⟨s,none,p,v⟩ :: rs) ((hp,nx) :: hps) s'
def ivOk (E:Env) (hps:List (Hp × Nat)):List (List Nat)→List Oper→List Rec→Prop
 | [] :: iv,_ :: os,_ :: rs=>ivOk E hps iv os rs
 | (c :: cs) :: iv,o :: os,r :: rs=>(∀ d∈c :: cs,∃ q,hps[d]?=some q∧stepP E (bare' o) (opEv o r.s.fr) q.1=some (r.p,r.v))∧ivOk E hps iv os rs
 | _,_,_=>True
def slots:Nat→List AV→Fr
 | _,[]=>[]
 | i,v :: r=>(i,v) :: slots (i+1) r
def res1 (E:Env) (s:St):ResultVar→Option AV
 | .tmp t=>some (gt s.fr t)
 | .cell a ty=>match gt s.fr a with
  | .ptr id off=>match hgt s.hp id with
   | .box _ cs=>ldC (E.td ty) cs off
   | _=>none
  | _=>none
def resL (E:Env) (s:St):List ResultVar→Option (List AV)
 | []=>some []
 | r :: rs=>match res1 E s r with
  | some v=>match resL E s rs with
   | some l=>some (v :: l)
   | none=>none
  | none=>none
def resV:List AV→AV
 | [v]=>v
 | l=>.tup l
inductive Run:Env→(St→Prop)→List It→St→Prop
 | nil {E Q s} (h:Q s):Run E Q [] s
 | gho {E Q k s s'} (hg:Gst s s') (h:Run E Q k s'):Run E Q k s
 | ret {E Q k s} (h:Q s):Run E Q (.code .ret :: k) s
 | skip {E Q k s} (h:Run E Q k s):Run E Q (.code .skip :: k) s
 | seq {E Q a b k s} (h:Run E Q (.code a :: .code b :: k) s):Run E Q (.code (.seq a b) :: k) s
 | block {E Q id c k s} (h:Run E Q (.code c :: .inB id :: k) s):Run E Q (.code (.block id c) :: k) s
 | inB {E Q id k s} (h:Run E Q k s):Run E Q (.inB id :: k) s
 | exit {E Q id k k' s} (hk:exitTo' id k=some k') (h:Run E Q k' s):Run E Q (.code (.exit id) :: k) s
 | cond {E Q c x y k s b} (hc:ev s.fr c=.bool b) (ht:b=true→Run E Q (.code x :: k) s) (hf:b=false→Run E Q (.code y :: k) s):Run E Q (.code (.cond c x y) :: k) s
 | condQ {E Q c x y k s} (hc:ev s.fr c=.qb) (ht:Run E Q (.code x :: k) s) (hf:Run E Q (.code y :: k) s):Run E Q (.code (.cond c x y) :: k) s
 | region {E Q id ops k s} (h:Run E Q (.ops ops.toList ops.toList :: k) s):Run E Q (.code (.region id ops false) :: k) s
 | draw {E Q id ops k s} (hs:List Nat) (alts:List Alt) (hok:drawOk ops.toList hs alts=true) (RS:Alt→List Rec) (HP:Alt→List (Hp × Nat)) (S':Alt→St)
   (hd:∀ A∈alts,DT E ops.toList hs A.ord (osOf ops.toList A) s (RS A) (HP A) (S' A)) (hiv:∀ A∈alts,ivOk E ((s.hp,s.nx) :: HP A) A.iv (osOf ops.toList A) (RS A))
   (h:∀ A∈alts,Run E Q k (S' A)):Run E Q (.code (.region id ops true) :: k) s
 | ops0 {E Q all k s} (h:Run E Q k s):Run E Q (.ops all [] :: k) s
 | ops1 {E Q all dst op type pos after os k s p v hp nx} (hs:step E ⟨dst,op,type,pos,after,none⟩ s=some (p,v,hp,nx)) (hq:∀ q,p=some q→q)
   (h:Run E Q (.ops all os :: k) (put1 s dst v hp nx)):Run E Q (.ops all (⟨dst,op,type,pos,after,none⟩ :: os) :: k) s
 | opsP {E Q all dst op type pos after j want os k s g p v} (hg:gval all s.fr j want=some g) (hs:stepP E ⟨dst,op,type,pos,after,none⟩ (evx op s.fr) s.hp=some (p,v))
   (hp:g=true→∀ q,cjo (reqx op s.fr) p=some q→q)
   (h:Run E Q (.ops all os :: k) (put1 s dst (.opt g v) s.hp s.nx)):Run E Q (.ops all (⟨dst,op,type,pos,after,some (j,want)⟩ :: os) :: k) s
 | opsG {E Q all dst op type pos after j want os k s g p v hp nx} (hg:gval all s.fr j want=some g)
   (hs:g=true→stepW E ⟨dst,op,type,pos,after,none⟩ (evx op s.fr) (reqx op s.fr) s=some (p,v,hp,nx)) (hq:g=true→∀ q,p=some q→q)
   (ht:g=true→Run E Q (.ops all os :: k) (put1 s dst v hp nx))
   (hf:g=false→Run E Q (.ops all os :: k) (put1 s dst .any s.hp s.nx)):Run E Q (.ops all (⟨dst,op,type,pos,after,some (j,want)⟩ :: os) :: k) s
 | loop {E Q c k s} (live keep bx:List Nat) (hk:meetOk keep bx c s.hp=true) (I:Nat→List AV→List (List AV)→Prop) (n:Nat) (h0:meet live bx s (I n))
   (h:∀ n vs bs,I n vs bs→Run E Q (.code c :: .back live bx I n :: k) (part live keep bx s vs bs)):Run E Q (.code (.loop c) :: k) s
 | back {E Q live bx I n k s} (m:Nat) (hm:m < n) (h:meet live bx s (I m)):Run E Q (.back live bx I n :: k) s
 | cut {E Q c k s} (live keep bx:List Nat) (hk:meetOk keep bx c s.hp=true) (M:List AV→List (List AV)→Prop)
   (h0:Run E Q (.code c :: .join live bx M :: k) s) (h:∀ vs bs,M vs bs→Run E Q k (part live keep bx s vs bs)):Run E Q (.code c :: k) s
 | join {E Q live bx M k s} (h:meet live bx s M):Run E Q (.join live bx M :: k) s
 | inl {E Q all dst f args ats type pos after os k s i} (Q':St→Prop) (hi:E.inl f=some i) (hb:Run (i.env E) Q' [.code i.c] ⟨slots 0 (args.toList.map (Go.Ab.ev s.fr)),s.hp,s.nx⟩)
   (hl:∀ s',Q' s'→(resL (i.env E) s' i.rs).isSome=true)
   (h:∀ s',Q' s'→Run E Q (.ops all os :: k) (put1 s dst (resV ((resL (i.env E) s' i.rs).getD [])) s'.hp s'.nx)):Run E Q (.ops all (⟨dst,.call ⟨.value (.func f),args,ats⟩,type,pos,after,none⟩ :: os) :: k) s
def enterB:AV→Hp→Nat→AV × Hp × Nat
 | .pb cs,hp,n=>(.ptr n 0,hput n (.box 0 ((bindL cs hp (n+1)).1.map (slo n))) (bindL cs hp (n+1)).2.1,(bindL cs hp (n+1)).2.2)
 | v,hp,n=>bindV v hp n
def enterBL:List AV→Hp→Nat→List AV × Hp × Nat
 | [],hp,n=>([],hp,n)
 | v :: vs,hp,n=>((enterB v hp n).1 :: (enterBL vs (enterB v hp n).2.1 (enterB v hp n).2.2).1,(enterBL vs (enterB v hp n).2.1 (enterB v hp n).2.2).2)
def enter1:AV→Hp→Nat→AV × Hp × Nat
 | .fn f [] cs,hp,n=>(.fn f [] (enterBL cs hp n).1,(enterBL cs hp n).2)
 | v,hp,n=>enterB v hp n
def enterL:List AV→Hp→Nat→List AV × Hp × Nat
 | [],hp,n=>([],hp,n)
 | v :: vs,hp,n=>((enter1 v hp n).1 :: (enterL vs (enter1 v hp n).2.1 (enter1 v hp n).2.2).1,(enterL vs (enter1 v hp n).2.1 (enter1 v hp n).2.2).2)
def outs1 (hp:Hp):AV→AV × Hp
 | .fn f [] cs=>(.fn f [] (passBL cs hp).1,(passBL cs hp).2)
 | v=>passB v hp
def outsA:List Md→List AV→Hp→List AV
 | m :: ms,v :: vs,hp=>match m with
  | .io=>(outs1 hp v).1 :: outsA ms vs (outs1 hp v).2
  | _=>outsA ms vs hp
 | _,_,_=>[]
def outV:AV→AV
 | .tup cs=>.tup (cs.map out1)
 | v=>out1 v
def finP (modes:List Md) (pv:List AV) (post:AV→List AV→Prop) (s:St):Option (List AV)→Prop
 | some l=>post (outV (takeV (resV l) s.hp).1) (outsA modes pv (takeV (resV l) s.hp).2)
 | none=>False
def fin (E:Env) (rs:List ResultVar) (modes:List Md) (pv:List AV) (post:AV→List AV→Prop) (s:St):Prop:=finP modes pv post s (resL E s rs)
theorem Gst.zclL:∀ (ids:List Nat) {fr:Fr} {hp:Hp} {nx:Nat},Gst ⟨fr,hp,nx⟩ ⟨fr,zclL ids hp,nx⟩
 | [],_,_,_=>.refl
 | id :: ids,fr,hp,nx=>.trans (.zcl (s:=⟨fr,hp,nx⟩) id) (Gst.zclL ids)
theorem Gst.ghoS {s:St} (g:Gho):Gst s (ghoS g s):=by
 cases g with
 | opn t=>exact .opn (.tmp t)
 | cls t =>
  show Gst s (match gt s.fr t with | .row id=>⟨s.fr,clsH id s.hp,s.nx⟩ | _=>s)
  split
  ·exact .cls _
  ·exact .refl
 | frz t=>exact .frz t
 | nil k t=>exact .nil k t
 | nib k t f=>exact .nib k t f
 | zcl=>exact .zclL _
 | nid k t=>exact .nid k t
 | nbd k t f=>exact .nbd k t f
 | drp t=>exact .drp _
 | lit=>exact .refl
theorem Gst.ghoL:∀ (gs:List Gho) {s:St},Gst s (ghoL gs s)
 | [],_=>.refl
 | g :: gs,s=>.trans (Gst.ghoS g) (Gst.ghoL gs)
theorem Gst.autoO {E:Env} {o:Op} {s:St}:Gst s (autoO E o s):=by
 unfold Go.Ab.autoO
 split
 ·split
  ·exact .opn _
  ·exact .refl
 ·exact .refl
theorem Gst.preO {E:Env} {o:Op} {dst:Option Tmp} {s:St}:Gst s (preO E o dst s):=by
 unfold Go.Ab.preO
 cases dst with
 | none=>exact .autoO
 | some d=>exact .trans (.ghoL _) .autoO
theorem Gst.preR {E:Env} {id:Nat} {s:St}:Gst s (preR E id s):=.ghoL _
theorem Gst.endS {E:Env} {s:St}:Gst s (endS E s):=.ghoL _
theorem Gst.clsL:∀ (ids:List Nat) {fr:Fr} {hp:Hp} {nx:Nat},Gst ⟨fr,hp,nx⟩ ⟨fr,clsL ids hp,nx⟩
 | [],_,_,_=>.refl
 | id :: ids,fr,hp,nx=>.trans (.cls (s:=⟨fr,hp,nx⟩) id) (Gst.clsL ids)
theorem Gst.clsS {s:St}:Gst s (clsS s):=by
 unfold Go.Ab.clsS
 cases hasHol s.hp with
 | false=>exact .refl
 | true=>exact .clsL _
def Body (E:Env) (f:Func) (modes:List Md) (args:List AV) (post:AV→List AV→Prop):Prop :=
 ∃ c,f.body=some c∧Run E (fin E f.results.toList modes (enterL args [] 0).1 post) [.code c] ⟨slots 0 (enterL args [] 0).1,(enterL args [] 0).2.1,(enterL args [] 0).2.2⟩
theorem Body.intro {E:Env} {f:Func} {modes:List Md} {args:List AV} {post:AV→List AV→Prop} {c:Code} {rs:List ResultVar} {vs:List AV} {hp:Hp} {n:Nat}
  (hc:f.body=some c) (hr:f.results.toList=rs) (he:enterL args [] 0=(vs,hp,n)) (h:Run E (fin E rs modes vs post) [.code c] ⟨slots 0 vs,hp,n⟩):Body E f modes args post:=by
 refine ⟨c,hc,?_⟩
 rw [hr,he]
 exact h
end Go.Ab
namespace Go.Ab
open Go
def asB:AV→Option Bool
 | .bool b=>some b
 | _=>none
theorem asB_bool (b:Bool):asB (.bool b)=some b:=rfl
theorem cjo_none (q:Option Prop):cjo none q=q:=rfl
theorem cjo_some (p:Prop):cjo (some p) none=some p:=rfl
theorem cjo_some2 (p q:Prop):cjo (some p) (some q)=some (p∧q):=rfl
theorem impo_none (h:Prop):impo h none=none:=rfl
theorem impo_some (h p:Prop):impo h (some p)=some (h→p):=rfl
abbrev Kt:=List It→St→Prop
def vcX (V:Kt) (s:St):Option (List It)→Prop
 | some k=>V k s
 | none=>False
def vcB (V:Kt) (x y:Code) (k:List It) (s:St):Option Bool→Prop
 | some b=>(b=true→V (.code x :: k) s)∧(b=false→V (.code y :: k) s)
 | none=>False
def vcQ (V:Kt) (x y:Code) (k:List It) (s:St):AV→Prop
 | .qb=>V (.code x :: k) s∧V (.code y :: k) s
 | v=>vcB V x y k s (asB v)
def vcO (V:Kt) (all os:List Oper) (k:List It) (s:St) (dst:Option Tmp):Option (Option Prop × AV × Hp × Nat)→Prop
 | some (none,v,hp,nx)=>V (.ops all os :: k) (put1 s dst v hp nx)
 | some (some p,v,hp,nx)=>p∧V (.ops all os :: k) (put1 s dst v hp nx)
 | none=>False
def vcG (E:Env) (V:Kt) (all os:List Oper) (k:List It) (s:St) (o:Oper):Option Bool→Option (Option Prop × AV)→Option Prop→Prop
 | some g,some (none,v),none=>V (.ops all os :: k) (put1 s o.dst (.opt g v) s.hp s.nx)
 | some g,some (some p,v),none=>(g=true→p)∧V (.ops all os :: k) (put1 s o.dst (.opt g v) s.hp s.nx)
 | some g,some (none,v),some q=>(g=true→q)∧V (.ops all os :: k) (put1 s o.dst (.opt g v) s.hp s.nx)
 | some g,some (some p,v),some q=>(g=true→q∧p)∧V (.ops all os :: k) (put1 s o.dst (.opt g v) s.hp s.nx)
 | some g,none,q=>(g=true→vcO V all os k s o.dst (stepW E o (evx o.op s.fr) q s))∧(g=false→V (.ops all os :: k) (put1 s o.dst .any s.hp s.nx))
 | none,_,_=>False
structure Pend where
 cs:List Nat
 o:Oper
 e:Operand→AV
 p:Option Prop
 v:AV
def addP (cs:List Nat) (o:Oper) (e:Operand→AV) (p:Option Prop) (v:AV) (l:List Pend):List Pend:=match cs with
 | []=>l
 | c :: r=>⟨c :: r,o,e,p,v⟩ :: l
def pend1 (E:Env) (H0:List (Hp × Nat)) (o:Oper) (e:Operand→AV) (p:Option Prop) (v:AV):List Nat→Prop
 | []=>True
 | c :: cs=>(match H0[c]? with
  | some q=>stepP E o e q.1=some (p,v)
  | none=>False)∧pend1 E H0 o e p v cs
def pendOk (E:Env) (H0:List (Hp × Nat)):List Pend→Prop
 | []=>True
 | ⟨cs,o,e,p,v⟩ :: r=>pend1 E H0 o e p v cs∧pendOk E H0 r
def hdI:List (List Nat)→List Nat
 | []=>[]
 | x :: _=>x
def tlI:List (List Nat)→List (List Nat)
 | []=>[]
 | _ :: r=>r
abbrev DK:=St→List Pend→List (Hp × Nat)→Prop
def drP (V:DK) (s:St) (dst:Option Tmp) (cs:List Nat) (o:Oper) (e:Operand→AV) (l:List Pend) (H0:List (Hp × Nat)):Option (Option Prop × AV)→Prop
 | some (none,v)=>V (put1 s dst v s.hp s.nx) (addP cs o e none v l) H0
 | some (some p,v)=>p∧V (put1 s dst v s.hp s.nx) (addP cs o e (some p) v l) H0
 | none=>False
def drH (V:DK) (s:St) (dst:Option Tmp) (l:List Pend) (H0:List (Hp × Nat)):Option (Option Prop × AV × Hp × Nat)→Prop
 | some (none,v,hp,nx)=>V (put1 s dst v hp nx) l (H0++[(hp,nx)])
 | some (some p,v,hp,nx)=>p∧V (put1 s dst v hp nx) l (H0++[(hp,nx)])
 | none=>False
def drG (V:DK) (s:St) (dst:Option Tmp) (cs:List Nat) (o:Oper) (e:Operand→AV) (l:List Pend) (H0:List (Hp × Nat)):Option Bool→Option (Option Prop × AV)→Option Prop→Prop
 | some g,some (none,v),none=>V (put1 s dst (.opt g v) s.hp s.nx) (addP cs o e none v l) H0
 | some g,some (some p,v),none=>(g=true→p)∧V (put1 s dst (.opt g v) s.hp s.nx) (addP cs o e (some p) v l) H0
 | some g,some (none,v),some q=>(g=true→q)∧V (put1 s dst (.opt g v) s.hp s.nx) (addP cs o e none v l) H0
 | some g,some (some p,v),some q=>(g=true→q∧p)∧V (put1 s dst (.opt g v) s.hp s.nx) (addP cs o e (some p) v l) H0
 | _,_,_=>False
def drawV (E:Env) (all:List Oper) (hs:List Nat) (K:St→Prop):List Nat→List (List Nat)→List Oper→DK
 | [],_,[],s,l,H0=>pendOk E H0 l∧K s
 | i :: is,iv,o :: os,s,l,H0=>match o.guard with
  | none=>bif memN i hs then bif (hdI iv).isEmpty then drH (drawV E all hs K is (tlI iv) os) s o.dst l H0 (stepH E ⟨o.dst,o.op,o.type,o.pos,o.after,none⟩ (ev s.fr) s.hp s.nx) else False
    else drP (drawV E all hs K is (tlI iv) os) s o.dst (hdI iv) ⟨o.dst,o.op,o.type,o.pos,o.after,none⟩ (ev s.fr) l H0 (stepP E ⟨o.dst,o.op,o.type,o.pos,o.after,none⟩ (ev s.fr) s.hp)
  | some (j,want)=>bif memN i hs then False else drG (drawV E all hs K is (tlI iv) os) s o.dst (hdI iv) ⟨o.dst,o.op,o.type,o.pos,o.after,none⟩ (evx o.op s.fr) l H0 (gval all s.fr j want)
    (stepP E ⟨o.dst,o.op,o.type,o.pos,o.after,none⟩ (evx o.op s.fr) s.hp) (reqx o.op s.fr)
 | _,_,_,_,_,_=>False
def altsV (E:Env) (all:List Oper) (hs:List Nat) (K:St→Prop) (s:St):List Alt→Prop
 | []=>True
 | A :: r=>drawV E all hs K A.2.1 A.2.2 (osOf all A) s [] [(s.hp,s.nx)]∧altsV E all hs K s r
def codeOk (E:Env):Code→Bool
 | .region id ops true=>match E.dr id with
  | some (hs,iv)=>drawOk ops.toList hs iv
  | none=>true
 | .seq a b=>codeOk E a&&codeOk E b
 | .cond _ a b=>codeOk E a&&codeOk E b
 | .block _ a=>codeOk E a
 | .loop a=>codeOk E a
 | _=>true
def inlOk (E:Env) (i:Inl):Bool:=codeOk (i.env E) i.c
def inlO (E:Env):Op→Option (Inl × Array Operand)
 | .call ⟨.value (.func f),args,_⟩=>match E.inl f with
  | some i=>some (i,args)
  | none=>none
 | _=>none
def vcI (V:St→Prop) (s:St) (dst:Option Tmp) (s':St):Option (List AV)→Prop
 | some l=>V (put1 s dst (resV l) s'.hp s'.nx)
 | none=>False
def vc (E:Env) (Q:St→Prop) (stop:Bool):Nat→List It→St→Prop
 | 0,k,s=>Run E Q k s
 | _+1,[],s=>Q (clsS s)
 | n+1,.code c :: k,s=>match c with
  | .ret=>Q (endS E (clsS s))
  | .skip=>vc E Q stop n k s
  | .seq a b=>vc E Q stop n (.code a :: .code b :: k) s
  | .block id c=>vc E Q stop n (.code c :: .inB id :: k) s
  | .exit id=>vcX (vc E Q stop n) s (exitTo' id k)
  | .cond c x y=>if stop then Run E Q (.code (.cond c x y) :: k) s else vcQ (vc E Q stop n) x y k s (ev s.fr c)
  | .region id ops draw=>if draw then match E.dr id with
    | some (hs,iv)=>altsV E ops.toList hs (vc E Q stop n k) (preR E id s) iv
    | none=>Run E Q (.code (.region id ops draw) :: k) s
   else vc E Q stop n (.ops ops.toList ops.toList :: k) s
  | c=>Run E Q (.code c :: k) s
 | n+1,.inB _ :: k,s=>vc E Q stop n k s
 | n+1,.ops all os :: k,s=>match os with
  | []=>vc E Q stop n k s
  | o :: os=>match o.guard with
   | none=>match inlO E o.op with
    | some (i,args)=>inlOk E i=true∧vc (i.env E) (fun s'=>vcI (vc E Q stop n (.ops all os :: k)) (preO E o.op o.dst s) o.dst s' (resL (i.env E) s' i.rs)) stop n [.code i.c] ⟨slots 0 (args.toList.map (ev (preO E o.op o.dst s).fr)),(preO E o.op o.dst s).hp,(preO E o.op o.dst s).nx⟩
    | none=>vcO (vc E Q stop n) all os k (preO E o.op o.dst s) o.dst (step E ⟨o.dst,o.op,o.type,o.pos,o.after,none⟩ (preO E o.op o.dst s))
   | some (j,want)=>vcG E (vc E Q stop n) all os k s ⟨o.dst,o.op,o.type,o.pos,o.after,none⟩ (gval all s.fr j want) (stepP E ⟨o.dst,o.op,o.type,o.pos,o.after,none⟩ (evx o.op s.fr) s.hp) (reqx o.op s.fr)
 | _+1,.back live bx I m :: _,s=>∃ j,j < m∧meet live bx (clsS s) (I j)
 | _+1,.join live bx M :: _,s=>meet live bx (clsS s) M
theorem vcO_elim {V:Kt} {all os:List Oper} {k:List It} {s:St} {dst:Option Tmp} {r:Option (Option Prop × AV × Hp × Nat)} (h:vcO V all os k s dst r) :
  ∃ p v hp nx,r=some (p,v,hp,nx)∧(∀ q,p=some q→q)∧V (.ops all os :: k) (put1 s dst v hp nx):=by
 match r,h with
 | some (none,v,hp,nx),h=>exact ⟨none,v,hp,nx,rfl,(fun _ e=>by cases e),h⟩
 | some (some p,v,hp,nx),h=>exact ⟨some p,v,hp,nx,rfl,(fun _ e=>by cases e;exact h.1),h.2⟩
theorem pend1_iff {E:Env} {H0:List (Hp × Nat)} {o:Oper} {e:Operand→AV} {p:Option Prop} {v:AV}:∀ {cs:List Nat},pend1 E H0 o e p v cs→∀ d∈cs,∃ q,H0[d]?=some q∧stepP E o e q.1=some (p,v)
 | c :: cs,h,d,hd=>by
  cases hd with
  | tail _ hd=>exact pend1_iff h.2 d hd
  | head =>
   have:=h.1
   cases hq:H0[c]? with
   | none=>rw [hq] at this;exact this.elim
   | some q=>rw [hq] at this;exact ⟨q,rfl,this⟩
theorem addP_ok {E:Env} {H0:List (Hp × Nat)} {cs:List Nat} {o:Oper} {e:Operand→AV} {p:Option Prop} {v:AV} {l:List Pend} (h:pendOk E H0 (addP cs o e p v l)):pendOk E H0 l∧∀ d∈cs,∃ q,H0[d]?=some q∧stepP E o e q.1=some (p,v):=by
 cases cs with
 | nil=>exact ⟨h,fun d hd=>by cases hd⟩
 | cons c r=>exact ⟨h.2,pend1_iff h.1⟩
theorem ivOk_cons {E:Env} {H0:List (Hp × Nat)} {iv:List (List Nat)} {o:Oper} {os:List Oper} {r:Rec} {rs:List Rec} (h:∀ d∈hdI iv,∃ q,H0[d]?=some q∧stepP E (bare' o) (opEv o r.s.fr) q.1=some (r.p,r.v)) (ht:ivOk E H0 (tlI iv) os rs) :
  ivOk E H0 iv (o :: os) (r :: rs):=by
 cases iv with
 | nil=>trivial
 | cons x iv=>cases x with
  | nil=>exact ht
  | cons c cs=>exact ⟨h,ht⟩
theorem ivOk_nil {E:Env} {H0:List (Hp × Nat)}:∀ {iv:List (List Nat)},ivOk E H0 iv [] []
 | []=>trivial
 | [] :: _=>trivial
 | (_ :: _) :: _=>trivial
theorem drawV_elim {E:Env} {all:List Oper} {hs:List Nat} {K:St→Prop}:∀ (os:List Oper) (is:List Nat) (iv:List (List Nat)) (s:St) (l:List Pend) (H0:List (Hp × Nat)),drawV E all hs K is iv os s l H0 →
  ∃ rs hps s',DT E all hs is os s rs hps s'∧pendOk E (H0++hps) l∧ivOk E (H0++hps) iv os rs∧K s'
 | [],_ :: _,iv,s,l,H0,h=>h.elim
 | _ :: _,[],iv,s,l,H0,h=>h.elim
 | [],[],iv,s,l,H0,h=>⟨[],[],s,.nil,by rw [List.append_nil];exact h.1,ivOk_nil,h.2⟩
 | ⟨dst,op,ty,pos,after,none⟩ :: os,i :: is,iv,s,l,H0,h=>by
  cases hm:memN i hs with
  | true =>
   replace h:(bif memN i hs then bif (hdI iv).isEmpty then drH (drawV E all hs K is (tlI iv) os) s dst l H0 (stepH E ⟨dst,op,ty,pos,after,none⟩ (ev s.fr) s.hp s.nx) else False else _):=h
   rw [hm] at h
   simp only [cond_true] at h
   have hni:(hdI iv).isEmpty=true:=by
    cases he:(hdI iv).isEmpty with
    | true=>rfl
    | false=>rw [he] at h;exact h.elim
   rw [hni] at h
   simp only [cond_true] at h
   cases hst:stepH E ⟨dst,op,ty,pos,after,none⟩ (ev s.fr) s.hp s.nx with
   | none=>rw [hst] at h;exact h.elim
   | some r =>
    obtain ⟨p,v,hp,nx⟩:=r
    rw [hst] at h
    have hh:(∀ q,p=some q→q)∧drawV E all hs K is (tlI iv) os (put1 s dst v hp nx) l (H0++[(hp,nx)]):=by
     cases p with
     | none=>exact ⟨fun q e=>(by cases e),h⟩
     | some p=>exact ⟨fun q e=>(by cases e;exact h.1),h.2⟩
    obtain ⟨rs,hps,s',h1,h2,h3,h4⟩:=drawV_elim os is (tlI iv) _ _ _ hh.2
    rw [List.append_assoc] at h2 h3
    refine ⟨⟨s,none,p,v⟩ :: rs,(hp,nx) :: hps,s',.h hm rfl hst hh.1 h1,h2,?_,h4⟩
    cases iv with
    | nil=>trivial
    | cons x iv=>cases x with
     | nil=>exact h3
     | cons c cs=>cases hni
  | false =>
   replace h:(bif memN i hs then _ else drP (drawV E all hs K is (tlI iv) os) s dst (hdI iv) ⟨dst,op,ty,pos,after,none⟩ (ev s.fr) l H0 (stepP E ⟨dst,op,ty,pos,after,none⟩ (ev s.fr) s.hp)):=h
   rw [hm] at h
   simp only [cond_false] at h
   cases hst:stepP E ⟨dst,op,ty,pos,after,none⟩ (ev s.fr) s.hp with
   | none=>rw [hst] at h;exact h.elim
   | some r =>
    obtain ⟨p,v⟩:=r
    rw [hst] at h
    have hh:(∀ q,p=some q→q)∧drawV E all hs K is (tlI iv) os (put1 s dst v s.hp s.nx) (addP (hdI iv) ⟨dst,op,ty,pos,after,none⟩ (ev s.fr) p v l) H0:=by
     cases p with
     | none=>exact ⟨fun q e=>(by cases e),h⟩
     | some p=>exact ⟨fun q e=>(by cases e;exact h.1),h.2⟩
    obtain ⟨rs,hps,s',h1,h2,h3,h4⟩:=drawV_elim os is (tlI iv) _ _ _ hh.2
    obtain ⟨h2,h5⟩:=addP_ok h2
    exact ⟨⟨s,none,p,v⟩ :: rs,hps,s',.p hm rfl hst hh.1 h1,h2,ivOk_cons h5 h3,h4⟩
 | ⟨dst,op,ty,pos,after,some (j,want)⟩ :: os,i :: is,iv,s,l,H0,h=>by
  cases hm:memN i hs with
  | true =>
   replace h:(bif memN i hs then False else _):=h
   rw [hm] at h
   exact h.elim
  | false =>
   replace h:(bif memN i hs then False else drG (drawV E all hs K is (tlI iv) os) s dst (hdI iv) ⟨dst,op,ty,pos,after,none⟩ (evx op s.fr) l H0 (gval all s.fr j want)
    (stepP E ⟨dst,op,ty,pos,after,none⟩ (evx op s.fr) s.hp) (reqx op s.fr)):=h
   rw [hm] at h
   simp only [cond_false] at h
   cases hg:gval all s.fr j want with
   | none=>rw [hg] at h;exact h.elim
   | some g =>
   rw [hg] at h
   cases hst:stepP E ⟨dst,op,ty,pos,after,none⟩ (evx op s.fr) s.hp with
   | none=>rw [hst] at h;exact h.elim
   | some r =>
    obtain ⟨p,v⟩:=r
    rw [hst] at h
    have hh:(g=true→∀ q,cjo (reqx op s.fr) p=some q→q)∧drawV E all hs K is (tlI iv) os (put1 s dst (.opt g v) s.hp s.nx) (addP (hdI iv) ⟨dst,op,ty,pos,after,none⟩ (evx op s.fr) p v l) H0:=by
     cases hq:reqx op s.fr with
     | none =>
      rw [hq] at h
      cases p with
      | none=>exact ⟨fun _ q e=>(by cases e),h⟩
      | some p=>exact ⟨fun hg q e=>(by cases e;exact h.1 hg),h.2⟩
     | some q0 =>
      rw [hq] at h
      cases p with
      | none=>exact ⟨fun hg q e=>(by cases e;exact h.1 hg),h.2⟩
      | some p=>exact ⟨fun hg q e=>(by cases e;exact h.1 hg),h.2⟩
    obtain ⟨rs,hps,s',h1,h2,h3,h4⟩:=drawV_elim os is (tlI iv) _ _ _ hh.2
    obtain ⟨h2,h5⟩:=addP_ok h2
    exact ⟨⟨s,some g,p,v⟩ :: rs,hps,s',.g hm rfl hg hst hh.1 h1,h2,ivOk_cons h5 h3,h4⟩
theorem altsV_elim {E:Env} {all:List Oper} {hs:List Nat} {K:St→Prop} {s:St}:∀ {alts:List Alt},altsV E all hs K s alts→∃ (RS:Alt→List Rec) (HP:Alt→List (Hp × Nat)) (S':Alt→St),
  ∀ A∈alts,DT E all hs A.ord (osOf all A) s (RS A) (HP A) (S' A)∧ivOk E ((s.hp,s.nx) :: HP A) A.iv (osOf all A) (RS A)∧K (S' A):=by
 intro alts h
 have h1:∀ A∈alts,∃ rs hps s',DT E all hs A.ord (osOf all A) s rs hps s'∧ivOk E ((s.hp,s.nx) :: hps) A.iv (osOf all A) rs∧K s':=by
  induction alts with
  | nil=>intro A hA;cases hA
  | cons B r ih =>
   intro A hA
   cases hA with
   | head =>
    obtain ⟨rs,hps,s',h1,_,h3,h4⟩:=drawV_elim _ _ _ _ _ _ h.1
    exact ⟨rs,hps,s',h1,h3,h4⟩
   | tail _ hA=>exact ih h.2 A hA
 refine ⟨fun A=>if hA:A∈alts then (h1 A hA).choose else [],fun A=>if hA:A∈alts then (h1 A hA).choose_spec.choose else [],fun A=>if hA:A∈alts then (h1 A hA).choose_spec.choose_spec.choose else s,fun A hA=>?_⟩
 simp only [dif_pos hA]
 exact (h1 A hA).choose_spec.choose_spec.choose_spec
def vcJ (E:Env) (Q:St→Prop) (stop:Bool) (n:Nat) (all os:List Oper) (k:List It) (s:St) (dst:Option Tmp):Option (Inl × Array Operand)→Option (Option Prop × AV × Hp × Nat)→Prop
 | some (i,args),_=>inlOk E i=true∧vc (i.env E) (fun s'=>vcI (vc E Q stop n (.ops all os :: k)) s dst s' (resL (i.env E) s' i.rs)) stop n [.code i.c] ⟨slots 0 (args.toList.map (ev s.fr)),s.hp,s.nx⟩
 | none,r=>vcO (vc E Q stop n) all os k s dst r
def itemsOk (E:Env):List It→Bool
 | []=>true
 | .code c :: k=>codeOk E c&&itemsOk E k
 | _ :: k=>itemsOk E k
theorem itemsOk_exit {E:Env} {id:Nat}:∀ {k k':List It},exitTo' id k=some k'→itemsOk E k=true→itemsOk E k'=true
 | [],_,h,_=>by cases h
 | .inB j :: k,k',h,hk=>by
  simp only [exitTo'] at h
  split at h
  ·cases h;exact hk
  ·exact itemsOk_exit h hk
 | .code c :: k,k',h,hk=>itemsOk_exit (k:=k) h (Bool.and_eq_true _ _ ▸ (show (codeOk E c&&itemsOk E k)=true from hk):_∧_).2
 | .ops _ _ :: k,k',h,hk=>itemsOk_exit (k:=k) h hk
 | .back .. :: k,k',h,hk=>itemsOk_exit (k:=k) h hk
 | .join .. :: k,k',h,hk=>itemsOk_exit (k:=k) h hk
theorem vc_runI {stop:Bool}:∀ {E:Env} {Q:St→Prop} n k s,itemsOk E k=true→vc E Q stop n k s→Run E Q k s
 | E,Q,0,_,_,_,h=>h
 | E,Q,n+1,[],_,_,h=>.gho .clsS (.nil h)
 | E,Q,n+1,.code c :: k,s,hi,h=>by
  obtain ⟨hc,hk⟩:=(Bool.and_eq_true _ _ ▸ (show (codeOk E c&&itemsOk E k)=true from hi):_∧_)
  have mk:∀ c',codeOk E c'=true→∀ k',itemsOk E k'=true→itemsOk E (.code c' :: k')=true:=fun c' h1 k' h2=>by show (codeOk E c'&&itemsOk E k')=true;rw [h1,h2];rfl
  cases c with
  | ret=>exact .gho .clsS (.gho .endS (.ret h))
  | skip=>exact .skip (vc_runI n _ _ hk h)
  | seq a b =>
   obtain ⟨h1,h2⟩:=(Bool.and_eq_true _ _ ▸ (show (codeOk E a&&codeOk E b)=true from hc):_∧_)
   exact .seq (vc_runI n _ _ (mk _ h1 _ (mk _ h2 _ hk)) h)
  | block id c=>exact .block (vc_runI n _ _ (mk _ hc _ hk) h)
  | exit id =>
   have hk0:=hk
   replace h:vcX (vc E Q stop n) s (exitTo' id k):=h
   cases hk:exitTo' id k with
   | none=>rw [hk] at h;exact h.elim
   | some k'=>rw [hk] at h;exact .exit hk (vc_runI n _ _ (itemsOk_exit hk hk0) h)
  | cond c x y =>
   obtain ⟨h1,h2⟩:=(Bool.and_eq_true _ _ ▸ (show (codeOk E x&&codeOk E y)=true from hc):_∧_)
   simp only [vc] at h
   split at h
   ·exact h
   ·by_cases hqb:ev s.fr c=.qb
    ·rw [hqb] at h
     exact .condQ hqb (vc_runI n _ _ (mk _ h1 _ hk) h.1) (vc_runI n _ _ (mk _ h2 _ hk) h.2)
    replace h:vcB (vc E Q stop n) x y k s (asB (ev s.fr c)):=by
     revert h hqb
     cases ev s.fr c<;>intro h hqb<;>first | exact h | exact absurd rfl hqb
    cases hb:asB (ev s.fr c) with
    | none=>rw [hb] at h;exact h.elim
    | some b =>
     rw [hb] at h
     have hc:ev s.fr c=.bool b:=by
      revert hb
      cases ev s.fr c<;>simp [asB]
     exact .cond hc (fun e=>vc_runI n _ _ (mk _ h1 _ hk) (h.1 e)) (fun e=>vc_runI n _ _ (mk _ h2 _ hk) (h.2 e))
  | region id ops draw =>
   cases draw with
   | true =>
    replace h:(match E.dr id with
     | some (hs,iv)=>altsV E ops.toList hs (vc E Q stop n k) (preR E id s) iv
     | none=>Run E Q (.code (.region id ops true) :: k) s):=h
    replace hc:(match E.dr id with
     | some (hs,iv)=>drawOk ops.toList hs iv
     | none=>true)=true:=hc
    cases hd:E.dr id with
    | none=>rw [hd] at h;exact h
    | some x =>
     obtain ⟨hs,iv⟩:=x
     rw [hd] at h hc
     obtain ⟨RS,HP,S',hh⟩:=altsV_elim h
     exact .gho .preR (.draw hs iv hc RS HP S' (fun A hA=>(hh A hA).1) (fun A hA=>(hh A hA).2.1) fun A hA=>vc_runI n k _ hk (hh A hA).2.2)
   | false=>exact .region (vc_runI n _ _ hk h)
  | loop c=>exact h
  | rangeFunc f ps a b=>exact h
  | scope b=>exact h
  | label l=>exact h
  | goto l=>exact h
  | refuse w=>exact h
 | E,Q,n+1,.inB _ :: k,s,hi,h=>.inB (vc_runI n _ _ hi h)
 | E,Q,n+1,.ops all os :: k,s,hi,h=>by
  cases os with
  | nil=>exact .ops0 (vc_runI n _ _ hi h)
  | cons o os =>
   obtain ⟨dst,op,ty,pos,after,gd⟩:=o
   cases gd with
   | none =>
    cases hin:inlO E op with
    | some r =>
     obtain ⟨i,args⟩:=r
     replace h:(match inlO E op with
      | some (i,args)=>inlOk E i=true∧vc (i.env E) (fun s'=>vcI (vc E Q stop n (.ops all os :: k)) (preO E op dst s) dst s' (resL (i.env E) s' i.rs)) stop n [.code i.c] ⟨slots 0 (args.toList.map (ev (preO E op dst s).fr)),(preO E op dst s).hp,(preO E op dst s).nx⟩
      | none=>vcO (vc E Q stop n) all os k (preO E op dst s) dst (step E ⟨dst,op,ty,pos,after,none⟩ (preO E op dst s))):=h
     rw [hin] at h
     obtain ⟨h0,h⟩:=h
     unfold inlO at hin
     split at hin
     ·rename_i f args' ats
      split at hin
      ·rename_i i' hi'
       cases hin
       refine .gho .preO (.inl _ hi' (vc_runI n _ _ ?_ h) (fun s' hs'=>?_) (fun s' hs'=>?_))
       ·show (codeOk (i.env E) i.c&&true)=true
        rw [Bool.and_true];exact h0
       ·cases hr:resL (i.env E) s' i.rs with
        | none=>rw [hr] at hs';exact hs'.elim
        | some l=>rfl
       ·cases hr:resL (i.env E) s' i.rs with
        | none=>rw [hr] at hs';exact hs'.elim
        | some l=>rw [hr] at hs';exact vc_runI n _ _ hi hs'
      ·cases hin
     ·cases hin
    | none =>
    replace h:(match inlO E op with
      | some (i,args)=>inlOk E i=true∧vc (i.env E) (fun s'=>vcI (vc E Q stop n (.ops all os :: k)) (preO E op dst s) dst s' (resL (i.env E) s' i.rs)) stop n [.code i.c] ⟨slots 0 (args.toList.map (ev (preO E op dst s).fr)),(preO E op dst s).hp,(preO E op dst s).nx⟩
      | none=>vcO (vc E Q stop n) all os k (preO E op dst s) dst (step E ⟨dst,op,ty,pos,after,none⟩ (preO E op dst s))):=h
    rw [hin] at h
    obtain ⟨p,v,hp,nx,hs,hp',h⟩:=vcO_elim (show vcO (vc E Q stop n) all os k (preO E op dst s) dst (step E ⟨dst,op,ty,pos,after,none⟩ (preO E op dst s)) from h)
    exact .gho .preO (.ops1 hs hp' (vc_runI n _ _ hi h))
   | some jw =>
    obtain ⟨j,want⟩:=jw
    replace h:vcG E (vc E Q stop n) all os k s ⟨dst,op,ty,pos,after,none⟩ (gval all s.fr j want) (stepP E ⟨dst,op,ty,pos,after,none⟩ (evx op s.fr) s.hp) (reqx op s.fr):=h
    cases hg:gval all s.fr j want with
    | none =>
     rw [hg] at h
     cases hs:stepP E ⟨dst,op,ty,pos,after,none⟩ (evx op s.fr) s.hp with
     | none=>rw [hs] at h;exact h.elim
     | some r=>rw [hs] at h;exact h.elim
    | some g =>
    rw [hg] at h
    cases hs:stepP E ⟨dst,op,ty,pos,after,none⟩ (evx op s.fr) s.hp with
    | some r =>
     obtain ⟨p,v⟩:=r
     rw [hs] at h
     cases hq:reqx op s.fr with
     | none =>
      rw [hq] at h
      cases p with
      | none=>exact .opsP hg hs (fun _ q e=>by rw [hq] at e;cases e) (vc_runI n _ _ hi h)
      | some p=>exact .opsP hg hs (fun hg' q e=>by rw [hq] at e;cases e;exact h.1 hg') (vc_runI n _ _ hi h.2)
     | some q0 =>
      rw [hq] at h
      cases p with
      | none=>exact .opsP hg hs (fun hg' q e=>by rw [hq] at e;cases e;exact h.1 hg') (vc_runI n _ _ hi h.2)
      | some p=>exact .opsP hg hs (fun hg' q e=>by rw [hq] at e;cases e;exact h.1 hg') (vc_runI n _ _ hi h.2)
    | none =>
     rw [hs] at h
     replace h:(g=true→vcO (vc E Q stop n) all os k s dst (stepW E ⟨dst,op,ty,pos,after,none⟩ (evx op s.fr) (reqx op s.fr) s))∧(g=false→vc E Q stop n (.ops all os :: k) (put1 s dst .any s.hp s.nx)):=h
     cases g with
     | false=>exact .opsG (p:=none) (v:=.any) (hp:=[]) (nx:=0) hg (fun e=>by cases e) (fun e=>by cases e) (fun e=>by cases e) (fun e=>vc_runI n _ _ hi (h.2 e))
     | true =>
      obtain ⟨p,v,hp,nx,hs',hp',h'⟩:=vcO_elim (h.1 rfl)
      exact .opsG hg (fun _=>hs') (fun _=>hp') (fun _=>vc_runI n _ _ hi h') (fun e=>vc_runI n _ _ hi (h.2 e))
 | E,Q,n+1,.back .. :: k,s,_,h=>by
  obtain ⟨j,h1,h2⟩:=h
  exact .gho .clsS (.back j h1 h2)
 | E,Q,n+1,.join .. :: k,s,_,h=>.gho .clsS (.join h)
theorem vc_run {E:Env} {Q:St→Prop} {stop:Bool} (n:Nat) {k:List It} {s:St} (hi:itemsOk E k=true) (h:vc E Q stop n k s):Run E Q k s:=vc_runI n k s hi h
section
variable (E:Env) (Q:St→Prop) (stop:Bool) (n:Nat) (k:List It) (s:St) (V:Kt)
theorem vc_nil:vc E Q stop (n+1) [] s=Q (clsS s):=rfl
theorem vc_ret:vc E Q stop (n+1) (.code .ret :: k) s=Q (endS E (clsS s)):=rfl
theorem vc_skip:vc E Q stop (n+1) (.code .skip :: k) s=vc E Q stop n k s:=rfl
theorem vc_seq (a b:Code):vc E Q stop (n+1) (.code (.seq a b) :: k) s=vc E Q stop n (.code a :: .code b :: k) s:=rfl
theorem vc_block (id:Nat) (c:Code):vc E Q stop (n+1) (.code (.block id c) :: k) s=vc E Q stop n (.code c :: .inB id :: k) s:=rfl
theorem vc_exit (id:Nat):vc E Q stop (n+1) (.code (.exit id) :: k) s=vcX (vc E Q stop n) s (exitTo' id k):=rfl
theorem vcX_some:vcX V s (some k)=V k s:=rfl
theorem vc_cond (c:Operand) (x y:Code):vc E Q false (n+1) (.code (.cond c x y) :: k) s=vcQ (vc E Q false n) x y k s (ev s.fr c):=rfl
theorem vcQ_qb (x y:Code):vcQ V x y k s .qb=(V (.code x :: k) s∧V (.code y :: k) s):=rfl
theorem vcQ_bool (x y:Code) (b:Bool):vcQ V x y k s (.bool b)=((b=true→V (.code x :: k) s)∧(b=false→V (.code y :: k) s)):=rfl
theorem vcB_some (x y:Code) (b:Bool):vcB V x y k s (some b)=((b=true→V (.code x :: k) s)∧(b=false→V (.code y :: k) s)):=rfl
theorem vc_condS (c:Operand) (x y:Code):vc E Q true (n+1) (.code (.cond c x y) :: k) s=Run E Q (.code (.cond c x y) :: k) s:=rfl
theorem vc_region (id:Nat) (ops:Array Oper):vc E Q stop (n+1) (.code (.region id ops false) :: k) s=vc E Q stop n (.ops ops.toList ops.toList :: k) s:=rfl
theorem vc_regionD (id:Nat) (ops:Array Oper):vc E Q stop (n+1) (.code (.region id ops true) :: k) s=match E.dr id with
    | some (hs,iv)=>altsV E ops.toList hs (vc E Q stop n k) (preR E id s) iv
    | none=>Run E Q (.code (.region id ops true) :: k) s:=rfl
theorem vc_loop (c:Code):vc E Q stop (n+1) (.code (.loop c) :: k) s=Run E Q (.code (.loop c) :: k) s:=rfl
theorem vc_inB (id:Nat):vc E Q stop (n+1) (.inB id :: k) s=vc E Q stop n k s:=rfl
theorem vc_back (live bx:List Nat) (I) (m:Nat):vc E Q stop (n+1) (.back live bx I m :: k) s=∃ j,j < m∧meet live bx (clsS s) (I j):=rfl
theorem vc_join (live bx:List Nat) (M):vc E Q stop (n+1) (.join live bx M :: k) s=meet live bx (clsS s) M:=rfl
theorem vc_ops0 (all:List Oper):vc E Q stop (n+1) (.ops all [] :: k) s=vc E Q stop n k s:=rfl
theorem vc_ops1 (all os:List Oper) (dst op type pos after):vc E Q stop (n+1) (.ops all (⟨dst,op,type,pos,after,none⟩ :: os) :: k) s =
  vcJ E Q stop n all os k (preO E op dst s) dst (inlO E op) (step E ⟨dst,op,type,pos,after,none⟩ (preO E op dst s)):=by
 show (match inlO E op with
  | some (i,args)=>_
  | none=>_)=_
 cases inlO E op with
 | none=>rfl
 | some r=>rfl
theorem vcJ_none (all os:List Oper) (dst r):vcJ E Q stop n all os k s dst none r=vcO (vc E Q stop n) all os k s dst r:=rfl
theorem vcJ_some (all os:List Oper) (dst r) (i:Inl) (args:Array Operand):vcJ E Q stop n all os k s dst (some (i,args)) r=(inlOk E i=true∧vc (i.env E) (fun s'=>vcI (vc E Q stop n (.ops all os :: k)) s dst s' (resL (i.env E) s' i.rs)) stop n [.code i.c] ⟨slots 0 (args.toList.map (ev s.fr)),s.hp,s.nx⟩):=rfl
theorem vcI_some (W:St→Prop) (dst s' l):vcI W s dst s' (some l)=W (put1 s dst (resV l) s'.hp s'.nx):=rfl
def inlV (o:Option Inl) (args:Array Operand):Option (Inl × Array Operand):=match o with
 | some i=>some (i,args)
 | none=>none
theorem inlV_none (args:Array Operand):inlV none args=none:=rfl
theorem inlV_some (i:Inl) (args:Array Operand):inlV (some i) args=some (i,args):=rfl
theorem inlO_func (f:FuncId) (args:Array Operand) (ats:Array TypeId):inlO E (.call ⟨.value (.func f),args,ats⟩)=inlV (E.inl f) args:=rfl
theorem inlO_tmp (t:Tmp) (args:Array Operand) (ats:Array TypeId):inlO E (.call ⟨.value (.tmp t),args,ats⟩)=none:=rfl
theorem inlO_builtin (b:Builtin) (args:Array Operand) (ats:Array TypeId):inlO E (.call ⟨.builtin b,args,ats⟩)=none:=rfl
theorem inlO_load (t:TypeId) (x:Operand):inlO E (.load t x)=none:=rfl
theorem inlO_move (x:Operand):inlO E (.move x)=none:=rfl
theorem inlO_assign (x:Operand):inlO E (.assign x)=none:=rfl
theorem inlO_pick (a b c:Operand):inlO E (.pick a b c)=none:=rfl
theorem inlO_nilCheck (x:Operand):inlO E (.nilCheck x)=none:=rfl
theorem inlO_binOp (op:BinOp) (t t':TypeId) (x y:Operand):inlO E (.binOp op t x y t')=none:=rfl
theorem inlO_unOp (op:UnOp) (t:TypeId) (x:Operand):inlO E (.unOp op t x)=none:=rfl
theorem inlO_makeFunc (f:Fn) (a b:Array Operand):inlO E (.makeFunc f a b)=none:=rfl
theorem inlO_slice (t:TypeId) (x:Operand) (a b c:Option Operand):inlO E (.slice t x a b c)=none:=rfl
theorem inlO_fieldAddr (t:TypeId) (x:Operand) (f:Nat):inlO E (.fieldAddr t x f)=none:=rfl
theorem inlO_field (t:TypeId) (x:Operand) (f:Nat):inlO E (.field t x f)=none:=rfl
theorem inlO_indexAddr (t:TypeId) (x y:Operand):inlO E (.indexAddr t x y)=none:=rfl
theorem inlO_index (t:TypeId) (x y:Operand):inlO E (.index t x y)=none:=rfl
theorem inlO_extract (x:Operand) (i:Nat):inlO E (.extract x i)=none:=rfl
theorem inlO_build (t:TypeId) (l:Array (Nat × Operand)):inlO E (.build t l)=none:=rfl
theorem inlO_alloc (t:TypeId):inlO E (.alloc t)=none:=rfl
theorem inlO_box (t:TypeId) (x:Operand):inlO E (.box t x)=none:=rfl
theorem inlO_buildSlice (t:TypeId) (n:Nat) (l:Array (Nat × Operand)):inlO E (.buildSlice t n l)=none:=rfl
theorem inlO_makeSlice (t:TypeId) (x y:Operand):inlO E (.makeSlice t x y)=none:=rfl
theorem inlO_store (t:TypeId) (x y:Operand):inlO E (.store t x y)=none:=rfl
theorem inlO_convert (t t':TypeId) (x:Operand):inlO E (.convert t t' x)=none:=rfl
theorem inl_td (i:Inl):(i.env E).td=E.td:=rfl
theorem inl_ety (i:Inl):(i.env E).ety=E.ety:=rfl
theorem inl_cal (i:Inl):(i.env E).cal=E.cal:=rfl
theorem inl_eqt (i:Inl):(i.env E).eqt=E.eqt:=rfl
theorem inl_inl (i:Inl):(i.env E).inl=E.inl:=rfl
theorem inl_fnd (i:Inl):(i.env E).fnd=E.fnd:=rfl
theorem inl_dr (i:Inl):(i.env E).dr=i.dr:=rfl
theorem inl_gh (i:Inl):(i.env E).gh=i.gh:=rfl
theorem ghoS_zcl:ghoS .zcl s=⟨s.fr,zclL (hids s.hp []) s.hp,s.nx⟩:=rfl
attribute [push_cast] vcJ_none vcJ_some vcI_some inlV_none inlV_some inlO_func inlO_tmp inlO_builtin inlO_load inlO_move inlO_assign inlO_pick inlO_nilCheck inlO_binOp inlO_unOp inlO_makeFunc inlO_slice inlO_fieldAddr inlO_field inlO_indexAddr inlO_index inlO_extract inlO_build inlO_alloc inlO_box inlO_buildSlice inlO_makeSlice inlO_store inlO_convert inl_td inl_ety inl_cal inl_eqt inl_inl inl_fnd inl_dr inl_gh ghoS_zcl
theorem preO_none (op:Op):preO E op none s=autoO E op s:=rfl
theorem preO_some (op:Op) (d:Nat):preO E op (some d) s=autoO E op (ghoL (E.gh d) s):=rfl
theorem preR_eq (id:Nat):preR E id s=ghoL (E.gh (1000000+id)) s:=rfl
theorem ghoL_nil:ghoL [] s=s:=rfl
theorem ghoL_cons (g:Gho) (gs:List Gho):ghoL (g :: gs) s=ghoL gs (ghoS g s):=rfl
theorem ghoS_lit:ghoS .lit s=s:=rfl
theorem ghoS_opn (t:Nat):ghoS (.opn t) s=opnS (gt s.fr t) s:=rfl
theorem ghoS_cls (t:Nat):ghoS (.cls t) s=match gt s.fr t with
  | .row id=>⟨s.fr,clsH id s.hp,s.nx⟩
  | _=>s:=rfl
theorem ghoS_frz (t:Nat):ghoS (.frz t) s=frzS t s:=rfl
theorem ghoS_nil (k:K) (t:Nat):ghoS (.nil k t) s=nilO k t s:=rfl
theorem ghoS_nid (k:K) (t:Nat):ghoS (.nid k t) s=nidO k t s:=rfl
theorem ghoS_drp (t:Nat):ghoS (.drp t) s=drpS (gt s.fr t) s:=rfl
theorem ghoS_nbd (k:K) (t f:Nat):ghoS (.nbd k t f) s=nbdO k t f s:=rfl
theorem ghoS_nib (k:K) (t f:Nat):ghoS (.nib k t f) s=nibO k t f s:=rfl
theorem endS_eq:endS E s=ghoL (E.gh 2000000) s:=rfl
theorem autoO_load (t:TypeId) (x:Operand):autoO E (.load t x) s=match E.td t with
  | .sl _=>opnS (ev s.fr x) s
  | _=>s:=rfl
theorem autoO_move (x:Operand):autoO E (.move x) s=s:=rfl
theorem autoO_assign (x:Operand):autoO E (.assign x) s=s:=rfl
theorem autoO_pick (a b c:Operand):autoO E (.pick a b c) s=s:=rfl
theorem autoO_nilCheck (x:Operand):autoO E (.nilCheck x) s=s:=rfl
theorem autoO_binOp (op:BinOp) (t t':TypeId) (x y:Operand):autoO E (.binOp op t x y t') s=s:=rfl
theorem autoO_unOp (op:UnOp) (t:TypeId) (x:Operand):autoO E (.unOp op t x) s=s:=rfl
theorem autoO_makeFunc (f:Fn) (a b:Array Operand):autoO E (.makeFunc f a b) s=s:=rfl
theorem autoO_slice (t:TypeId) (x:Operand) (a b c:Option Operand):autoO E (.slice t x a b c) s=s:=rfl
theorem autoO_fieldAddr (t:TypeId) (x:Operand) (f:Nat):autoO E (.fieldAddr t x f) s=s:=rfl
theorem autoO_field (t:TypeId) (x:Operand) (f:Nat):autoO E (.field t x f) s=s:=rfl
theorem autoO_indexAddr (t:TypeId) (x y:Operand):autoO E (.indexAddr t x y) s=s:=rfl
theorem autoO_index (t:TypeId) (x y:Operand):autoO E (.index t x y) s=s:=rfl
theorem autoO_extract (x:Operand) (i:Nat):autoO E (.extract x i) s=s:=rfl
theorem autoO_build (t:TypeId) (l:Array (Nat × Operand)):autoO E (.build t l) s=s:=rfl
theorem autoO_call (c):autoO E (.call c) s=s:=rfl
theorem autoO_alloc (t:TypeId):autoO E (.alloc t) s=s:=rfl
theorem autoO_box (t:TypeId) (x:Operand):autoO E (.box t x) s=s:=rfl
theorem autoO_buildSlice (t:TypeId) (n:Nat) (l:Array (Nat × Operand)):autoO E (.buildSlice t n l) s=s:=rfl
theorem autoO_makeSlice (t:TypeId) (x y:Operand):autoO E (.makeSlice t x y) s=s:=rfl
theorem autoO_store (t:TypeId) (x y:Operand):autoO E (.store t x y) s=s:=rfl
theorem autoO_convert (t t':TypeId) (x:Operand):autoO E (.convert t t' x) s=s:=rfl
theorem opnS_elp (id:Nat) (i:Int) (off:Nat):opnS (.elp id i off) s=opnH id i s:=rfl
theorem opnS_ptr (id off:Nat):opnS (.ptr id off) s=s:=rfl
theorem opnS_dep (d:Data) (i:Int) (off:Nat):opnS (.dep d i off) s=s:=rfl
theorem opnS_rbp (cs:List AV) (off:Nat):opnS (.rbp cs off) s=s:=rfl
theorem opnS_zlp (id id2 off:Nat):opnS (.zlp id id2 off) s=s:=rfl
theorem opnS_zp (id id2:Nat) (l:List Node) (p:List Int):opnS (.zp id id2 l p) s=s:=rfl
theorem opnS_any:opnS .any s=s:=rfl
theorem opnS_val (v:Value):opnS (.val v) s=s:=rfl
theorem vcO_none (all os:List Oper) (dst v hp nx):vcO V all os k s dst (some (none,v,hp,nx))=V (.ops all os :: k) (put1 s dst v hp nx):=rfl
theorem vcO_some (all os:List Oper) (dst p v hp nx):vcO V all os k s dst (some (some p,v,hp,nx))=(p∧V (.ops all os :: k) (put1 s dst v hp nx)):=rfl
theorem vcO_nil (all os:List Oper) (dst):vcO V all os k s dst none=False:=rfl
theorem vc_opsG (all os:List Oper) (dst op type pos after j want):vc E Q stop (n+1) (.ops all (⟨dst,op,type,pos,after,some (j,want)⟩ :: os) :: k) s =
  vcG E (vc E Q stop n) all os k s ⟨dst,op,type,pos,after,none⟩ (gval all s.fr j want) (stepP E ⟨dst,op,type,pos,after,none⟩ (evx op s.fr) s.hp) (reqx op s.fr):=rfl
theorem vcG_nn (all os:List Oper) (o:Oper) (g v):vcG E V all os k s o (some g) (some (none,v)) none=V (.ops all os :: k) (put1 s o.dst (.opt g v) s.hp s.nx):=rfl
theorem vcG_sn (all os:List Oper) (o:Oper) (g v p):vcG E V all os k s o (some g) (some (some p,v)) none=((g=true→p)∧V (.ops all os :: k) (put1 s o.dst (.opt g v) s.hp s.nx)):=rfl
theorem vcG_ns (all os:List Oper) (o:Oper) (g v q):vcG E V all os k s o (some g) (some (none,v)) (some q)=((g=true→q)∧V (.ops all os :: k) (put1 s o.dst (.opt g v) s.hp s.nx)):=rfl
theorem vcG_ss (all os:List Oper) (o:Oper) (g v p q):vcG E V all os k s o (some g) (some (some p,v)) (some q)=((g=true→q∧p)∧V (.ops all os :: k) (put1 s o.dst (.opt g v) s.hp s.nx)):=rfl
theorem vcG_no (all os:List Oper) (o:Oper) (g q):vcG E V all os k s o (some g) none q=((g=true→vcO V all os k s o.dst (stepW E o (evx o.op s.fr) q s))∧(g=false→V (.ops all os :: k) (put1 s o.dst .any s.hp s.nx))):=by
 cases q<;>rfl
end
def okP (x:Option (Option Prop × AV)) (hp:Hp) (nx:Nat):Option (Option Prop × AV × Hp × Nat):=match x with
 | some (p,v)=>some (p,v,hp,nx)
 | none=>none
def orH (x:Option (Option Prop × AV)) (hp:Hp) (nx:Nat) (y:Option (Option Prop × AV × Hp × Nat)):Option (Option Prop × AV × Hp × Nat):=match x with
 | some (p,v)=>some (p,v,hp,nx)
 | none=>y
theorem okP_some (p v hp nx):okP (some (p,v)) hp nx=some (p,v,hp,nx):=rfl
theorem orH_some (p v hp nx y):orH (some (p,v)) hp nx y=some (p,v,hp,nx):=rfl
theorem orH_none (hp nx y):orH none hp nx y=y:=rfl
section
variable (E:Env) (fr:Fr) (hp:Hp) (nx:Nat) (d:Option Tmp) (t:TypeId) (ps:String) (af:Array Edge)
theorem step_move (x:Operand):step E ⟨d,.move x,t,ps,af,none⟩ ⟨fr,hp,nx⟩=okP (stepP E ⟨d,.move x,t,ps,af,none⟩ (ev fr) hp) hp nx:=by
 show (match stepP E ⟨d,.move x,t,ps,af,none⟩ (ev fr) hp with | some (p,v)=>some (p,v,hp,nx) | none=>none)=_
 rfl
theorem step_assign (x:Operand):step E ⟨d,.assign x,t,ps,af,none⟩ ⟨fr,hp,nx⟩=okP (stepP E ⟨d,.assign x,t,ps,af,none⟩ (ev fr) hp) hp nx:=by
 show (match stepP E ⟨d,.assign x,t,ps,af,none⟩ (ev fr) hp with | some (p,v)=>some (p,v,hp,nx) | none=>none)=_
 rfl
theorem step_pick (c a b:Operand):step E ⟨d,.pick c a b,t,ps,af,none⟩ ⟨fr,hp,nx⟩=okP (stepP E ⟨d,.pick c a b,t,ps,af,none⟩ (ev fr) hp) hp nx:=by
 show (match stepP E ⟨d,.pick c a b,t,ps,af,none⟩ (ev fr) hp with | some (p,v)=>some (p,v,hp,nx) | none=>none)=_
 rfl
theorem step_load (ty:TypeId) (x:Operand):step E ⟨d,.load ty x,t,ps,af,none⟩ ⟨fr,hp,nx⟩=orH (stepP E ⟨d,.load ty x,t,ps,af,none⟩ (ev fr) hp) hp nx (stepH E ⟨d,.load ty x,t,ps,af,none⟩ (ev fr) hp nx):=by
 show (match stepP E ⟨d,.load ty x,t,ps,af,none⟩ (ev fr) hp with | some (p,v)=>some (p,v,hp,nx) | none=>match stepH E ⟨d,.load ty x,t,ps,af,none⟩ (ev fr) hp nx with | some (p,v,hp,nx)=>some (p,v,hp,nx) | none=>none)=_
 cases stepP E ⟨d,.load ty x,t,ps,af,none⟩ (ev fr) hp with
 | some r=>rfl
 | none =>
  show _=stepH E ⟨d,.load ty x,t,ps,af,none⟩ (ev fr) hp nx
  cases stepH E ⟨d,.load ty x,t,ps,af,none⟩ (ev fr) hp nx with
  | some r=>rfl
  | none=>rfl
theorem step_nilCheck (x:Operand):step E ⟨d,.nilCheck x,t,ps,af,none⟩ ⟨fr,hp,nx⟩=okP (stepP E ⟨d,.nilCheck x,t,ps,af,none⟩ (ev fr) hp) hp nx:=by
 show (match stepP E ⟨d,.nilCheck x,t,ps,af,none⟩ (ev fr) hp with | some (p,v)=>some (p,v,hp,nx) | none=>none)=_
 rfl
theorem step_binOp (op:BinOp) (ty ty':TypeId) (x y:Operand):step E ⟨d,.binOp op ty x y ty',t,ps,af,none⟩ ⟨fr,hp,nx⟩=okP (stepP E ⟨d,.binOp op ty x y ty',t,ps,af,none⟩ (ev fr) hp) hp nx:=by
 show (match stepP E ⟨d,.binOp op ty x y ty',t,ps,af,none⟩ (ev fr) hp with | some (p,v)=>some (p,v,hp,nx) | none=>none)=_
 rfl
theorem step_unOp (op:UnOp) (ty:TypeId) (x:Operand):step E ⟨d,.unOp op ty x,t,ps,af,none⟩ ⟨fr,hp,nx⟩=okP (stepP E ⟨d,.unOp op ty x,t,ps,af,none⟩ (ev fr) hp) hp nx:=by
 show (match stepP E ⟨d,.unOp op ty x,t,ps,af,none⟩ (ev fr) hp with | some (p,v)=>some (p,v,hp,nx) | none=>none)=_
 rfl
theorem step_makeFunc (f:FuncId) (a b:Array Operand):step E ⟨d,.makeFunc (.func f) a b,t,ps,af,none⟩ ⟨fr,hp,nx⟩=okP (stepP E ⟨d,.makeFunc (.func f) a b,t,ps,af,none⟩ (ev fr) hp) hp nx:=by
 show (match stepP E ⟨d,.makeFunc (.func f) a b,t,ps,af,none⟩ (ev fr) hp with | some (p,v)=>some (p,v,hp,nx) | none=>none)=_
 rfl
theorem step_slice (ty:TypeId) (x:Operand) (lo hi:Option Operand):step E ⟨d,.slice ty x lo hi none,t,ps,af,none⟩ ⟨fr,hp,nx⟩=orH (stepP E ⟨d,.slice ty x lo hi none,t,ps,af,none⟩ (ev fr) hp) hp nx (stepH E ⟨d,.slice ty x lo hi none,t,ps,af,none⟩ (ev fr) hp nx):=by
 show (match stepP E ⟨d,.slice ty x lo hi none,t,ps,af,none⟩ (ev fr) hp with | some (p,v)=>some (p,v,hp,nx) | none=>match stepH E ⟨d,.slice ty x lo hi none,t,ps,af,none⟩ (ev fr) hp nx with | some (p,v,hp,nx)=>some (p,v,hp,nx) | none=>none)=orH (stepP E ⟨d,.slice ty x lo hi none,t,ps,af,none⟩ (ev fr) hp) hp nx (stepH E ⟨d,.slice ty x lo hi none,t,ps,af,none⟩ (ev fr) hp nx)
 cases stepP E ⟨d,.slice ty x lo hi none,t,ps,af,none⟩ (ev fr) hp with
 | some r=>rfl
 | none=>cases stepH E ⟨d,.slice ty x lo hi none,t,ps,af,none⟩ (ev fr) hp nx<;>rfl
theorem step_fieldAddr (S:TypeId) (x:Operand) (f:Nat):step E ⟨d,.fieldAddr S x f,t,ps,af,none⟩ ⟨fr,hp,nx⟩=okP (stepP E ⟨d,.fieldAddr S x f,t,ps,af,none⟩ (ev fr) hp) hp nx:=by
 show (match stepP E ⟨d,.fieldAddr S x f,t,ps,af,none⟩ (ev fr) hp with | some (p,v)=>some (p,v,hp,nx) | none=>none)=_
 rfl
theorem step_field (S:TypeId) (x:Operand) (f:Nat):step E ⟨d,.field S x f,t,ps,af,none⟩ ⟨fr,hp,nx⟩=okP (stepP E ⟨d,.field S x f,t,ps,af,none⟩ (ev fr) hp) hp nx:=by
 show (match stepP E ⟨d,.field S x f,t,ps,af,none⟩ (ev fr) hp with | some (p,v)=>some (p,v,hp,nx) | none=>none)=_
 rfl
theorem step_indexAddr (S:TypeId) (x i:Operand):step E ⟨d,.indexAddr S x i,t,ps,af,none⟩ ⟨fr,hp,nx⟩=okP (stepP E ⟨d,.indexAddr S x i,t,ps,af,none⟩ (ev fr) hp) hp nx:=by
 show (match stepP E ⟨d,.indexAddr S x i,t,ps,af,none⟩ (ev fr) hp with | some (p,v)=>some (p,v,hp,nx) | none=>none)=_
 rfl
theorem step_index (S:TypeId) (x i:Operand):step E ⟨d,.index S x i,t,ps,af,none⟩ ⟨fr,hp,nx⟩=okP (stepP E ⟨d,.index S x i,t,ps,af,none⟩ (ev fr) hp) hp nx:=by
 show (match stepP E ⟨d,.index S x i,t,ps,af,none⟩ (ev fr) hp with | some (p,v)=>some (p,v,hp,nx) | none=>none)=_
 rfl
theorem step_extract (x:Operand) (i:Nat):step E ⟨d,.extract x i,t,ps,af,none⟩ ⟨fr,hp,nx⟩=okP (stepP E ⟨d,.extract x i,t,ps,af,none⟩ (ev fr) hp) hp nx:=by
 show (match stepP E ⟨d,.extract x i,t,ps,af,none⟩ (ev fr) hp with | some (p,v)=>some (p,v,hp,nx) | none=>none)=_
 rfl
theorem step_build (ty:TypeId) (parts:Array (Nat × Operand)):step E ⟨d,.build ty parts,t,ps,af,none⟩ ⟨fr,hp,nx⟩=okP (stepP E ⟨d,.build ty parts,t,ps,af,none⟩ (ev fr) hp) hp nx:=by
 show (match stepP E ⟨d,.build ty parts,t,ps,af,none⟩ (ev fr) hp with | some (p,v)=>some (p,v,hp,nx) | none=>none)=_
 rfl
theorem step_len (args:Array Operand) (ats:Array TypeId):step E ⟨d,.call ⟨.builtin .len,args,ats⟩,t,ps,af,none⟩ ⟨fr,hp,nx⟩=okP (stepP E ⟨d,.call ⟨.builtin .len,args,ats⟩,t,ps,af,none⟩ (ev fr) hp) hp nx:=by
 show (match stepP E ⟨d,.call ⟨.builtin .len,args,ats⟩,t,ps,af,none⟩ (ev fr) hp with | some (p,v)=>some (p,v,hp,nx) | none=>none)=_
 rfl
theorem step_min (args:Array Operand) (ats:Array TypeId):step E ⟨d,.call ⟨.builtin .min,args,ats⟩,t,ps,af,none⟩ ⟨fr,hp,nx⟩=okP (stepP E ⟨d,.call ⟨.builtin .min,args,ats⟩,t,ps,af,none⟩ (ev fr) hp) hp nx:=by
 show (match stepP E ⟨d,.call ⟨.builtin .min,args,ats⟩,t,ps,af,none⟩ (ev fr) hp with | some (p,v)=>some (p,v,hp,nx) | none=>none)=_
 rfl
theorem step_max (args:Array Operand) (ats:Array TypeId):step E ⟨d,.call ⟨.builtin .max,args,ats⟩,t,ps,af,none⟩ ⟨fr,hp,nx⟩=okP (stepP E ⟨d,.call ⟨.builtin .max,args,ats⟩,t,ps,af,none⟩ (ev fr) hp) hp nx:=by
 show (match stepP E ⟨d,.call ⟨.builtin .max,args,ats⟩,t,ps,af,none⟩ (ev fr) hp with | some (p,v)=>some (p,v,hp,nx) | none=>none)=_
 rfl
theorem step_alloc (ty:TypeId):step E ⟨d,.alloc ty,t,ps,af,none⟩ ⟨fr,hp,nx⟩=stepH E ⟨d,.alloc ty,t,ps,af,none⟩ (ev fr) hp nx:=by
 show (match stepH E ⟨d,.alloc ty,t,ps,af,none⟩ (ev fr) hp nx with | some (p,v,hp,nx)=>some (p,v,hp,nx) | none=>none)=_
 cases stepH E ⟨d,.alloc ty,t,ps,af,none⟩ (ev fr) hp nx<;>rfl
theorem step_box (ty:TypeId) (x:Operand):step E ⟨d,.box ty x,t,ps,af,none⟩ ⟨fr,hp,nx⟩=stepH E ⟨d,.box ty x,t,ps,af,none⟩ (ev fr) hp nx:=by
 show (match stepH E ⟨d,.box ty x,t,ps,af,none⟩ (ev fr) hp nx with | some (p,v,hp,nx)=>some (p,v,hp,nx) | none=>none)=_
 cases stepH E ⟨d,.box ty x,t,ps,af,none⟩ (ev fr) hp nx<;>rfl
theorem step_buildSlice (ty:TypeId) (len:Nat) (parts:Array (Nat × Operand)):step E ⟨d,.buildSlice ty len parts,t,ps,af,none⟩ ⟨fr,hp,nx⟩=orH (stepP E ⟨d,.buildSlice ty len parts,t,ps,af,none⟩ (ev fr) hp) hp nx (stepH E ⟨d,.buildSlice ty len parts,t,ps,af,none⟩ (ev fr) hp nx):=by
 show (match stepP E ⟨d,.buildSlice ty len parts,t,ps,af,none⟩ (ev fr) hp with | some (p,v)=>some (p,v,hp,nx) | none=>match stepH E ⟨d,.buildSlice ty len parts,t,ps,af,none⟩ (ev fr) hp nx with | some (p,v,hp,nx)=>some (p,v,hp,nx) | none=>none)=orH (stepP E ⟨d,.buildSlice ty len parts,t,ps,af,none⟩ (ev fr) hp) hp nx (stepH E ⟨d,.buildSlice ty len parts,t,ps,af,none⟩ (ev fr) hp nx)
 cases stepP E ⟨d,.buildSlice ty len parts,t,ps,af,none⟩ (ev fr) hp with
 | some r=>rfl
 | none=>cases stepH E ⟨d,.buildSlice ty len parts,t,ps,af,none⟩ (ev fr) hp nx<;>rfl
theorem step_makeSlice (ty:TypeId) (l c:Operand):step E ⟨d,.makeSlice ty l c,t,ps,af,none⟩ ⟨fr,hp,nx⟩=stepH E ⟨d,.makeSlice ty l c,t,ps,af,none⟩ (ev fr) hp nx:=by
 show (match stepH E ⟨d,.makeSlice ty l c,t,ps,af,none⟩ (ev fr) hp nx with | some (p,v,hp,nx)=>some (p,v,hp,nx) | none=>none)=_
 cases stepH E ⟨d,.makeSlice ty l c,t,ps,af,none⟩ (ev fr) hp nx<;>rfl
theorem step_store (ty:TypeId) (a x:Operand):step E ⟨d,.store ty a x,t,ps,af,none⟩ ⟨fr,hp,nx⟩=stepH E ⟨d,.store ty a x,t,ps,af,none⟩ (ev fr) hp nx:=by
 show (match stepH E ⟨d,.store ty a x,t,ps,af,none⟩ (ev fr) hp nx with | some (p,v,hp,nx)=>some (p,v,hp,nx) | none=>none)=_
 cases stepH E ⟨d,.store ty a x,t,ps,af,none⟩ (ev fr) hp nx<;>rfl
theorem step_append (args:Array Operand) (ats:Array TypeId):step E ⟨d,.call ⟨.builtin .append,args,ats⟩,t,ps,af,none⟩ ⟨fr,hp,nx⟩=stepH E ⟨d,.call ⟨.builtin .append,args,ats⟩,t,ps,af,none⟩ (ev fr) hp nx:=by
 show (match stepH E ⟨d,.call ⟨.builtin .append,args,ats⟩,t,ps,af,none⟩ (ev fr) hp nx with | some (p,v,hp,nx)=>some (p,v,hp,nx) | none=>none)=_
 cases stepH E ⟨d,.call ⟨.builtin .append,args,ats⟩,t,ps,af,none⟩ (ev fr) hp nx<;>rfl
theorem step_clear (args:Array Operand) (ats:Array TypeId):step E ⟨d,.call ⟨.builtin .clear,args,ats⟩,t,ps,af,none⟩ ⟨fr,hp,nx⟩=stepH E ⟨d,.call ⟨.builtin .clear,args,ats⟩,t,ps,af,none⟩ (ev fr) hp nx:=by
 show (match stepH E ⟨d,.call ⟨.builtin .clear,args,ats⟩,t,ps,af,none⟩ (ev fr) hp nx with | some (p,v,hp,nx)=>some (p,v,hp,nx) | none=>none)=_
 cases stepH E ⟨d,.call ⟨.builtin .clear,args,ats⟩,t,ps,af,none⟩ (ev fr) hp nx<;>rfl
theorem step_convert (ty dst:TypeId) (x:Operand):step E ⟨d,.convert ty dst x,t,ps,af,none⟩ ⟨fr,hp,nx⟩=orH (stepP E ⟨d,.convert ty dst x,t,ps,af,none⟩ (ev fr) hp) hp nx (stepH E ⟨d,.convert ty dst x,t,ps,af,none⟩ (ev fr) hp nx):=by
 show (match stepP E ⟨d,.convert ty dst x,t,ps,af,none⟩ (ev fr) hp with | some (p,v)=>some (p,v,hp,nx) | none=>match stepH E ⟨d,.convert ty dst x,t,ps,af,none⟩ (ev fr) hp nx with | some (p,v,hp,nx)=>some (p,v,hp,nx) | none=>none)=orH (stepP E ⟨d,.convert ty dst x,t,ps,af,none⟩ (ev fr) hp) hp nx (stepH E ⟨d,.convert ty dst x,t,ps,af,none⟩ (ev fr) hp nx)
 cases stepP E ⟨d,.convert ty dst x,t,ps,af,none⟩ (ev fr) hp with
 | some r=>rfl
 | none=>cases stepH E ⟨d,.convert ty dst x,t,ps,af,none⟩ (ev fr) hp nx<;>rfl
theorem step_call (f:Operand) (args:Array Operand) (ats:Array TypeId):step E ⟨d,.call ⟨.value f,args,ats⟩,t,ps,af,none⟩ ⟨fr,hp,nx⟩=orH (stepP E ⟨d,.call ⟨.value f,args,ats⟩,t,ps,af,none⟩ (ev fr) hp) hp nx (stepH E ⟨d,.call ⟨.value f,args,ats⟩,t,ps,af,none⟩ (ev fr) hp nx):=by
 show (match stepP E ⟨d,.call ⟨.value f,args,ats⟩,t,ps,af,none⟩ (ev fr) hp with | some (p,v)=>some (p,v,hp,nx) | none=>match stepH E ⟨d,.call ⟨.value f,args,ats⟩,t,ps,af,none⟩ (ev fr) hp nx with | some (p,v,hp,nx)=>some (p,v,hp,nx) | none=>none)=orH (stepP E ⟨d,.call ⟨.value f,args,ats⟩,t,ps,af,none⟩ (ev fr) hp) hp nx (stepH E ⟨d,.call ⟨.value f,args,ats⟩,t,ps,af,none⟩ (ev fr) hp nx)
 cases stepP E ⟨d,.call ⟨.value f,args,ats⟩,t,ps,af,none⟩ (ev fr) hp with
 | some r=>rfl
 | none=>cases stepH E ⟨d,.call ⟨.value f,args,ats⟩,t,ps,af,none⟩ (ev fr) hp nx<;>rfl
end
def gd {α:Type} (l:List α) (d:α) (i:Int):α:=l.getD i.toNat d
def attrD:Attr:=⟨[],[]⟩
def nodeD:Node:=.mk 0 0 [] [] [] []
def ruleD:Rule:=⟨0,[],[]⟩
def cfgD:Cfg:=⟨false,false,[],[],[],[],[],false,false⟩
def docD:Docu:=⟨[],[]⟩
def callD:Kall:=⟨0,0,0,[],[],[]⟩
def answD:Answ:=⟨0,[]⟩
def toknD:Tokn:=⟨0,0,0,[],[],[],false⟩
def opnD:Opn:=⟨[],0⟩
theorem get_u8 (l:List UInt8) (i:Int):Data.get ⟨.u8,l⟩ i=gd l 0 i:=rfl
theorem get_str (l:List Str) (i:Int):Data.get ⟨.str,l⟩ i=gd l [] i:=rfl
theorem get_int (l:List Int) (i:Int):Data.get ⟨.int,l⟩ i=gd l 0 i:=rfl
theorem get_bool (l:List Bool) (i:Int):Data.get ⟨.bool,l⟩ i=gd l false i:=rfl
theorem get_attr (l:List Attr) (i:Int):Data.get ⟨.attr,l⟩ i=gd l attrD i:=rfl
theorem get_node (l:List Node) (i:Int):Data.get ⟨.node,l⟩ i=gd l nodeD i:=rfl
theorem get_rule (l:List Rule) (i:Int):Data.get ⟨.rule,l⟩ i=gd l ruleD i:=rfl
theorem get_cfg (l:List Cfg) (i:Int):Data.get ⟨.cfg,l⟩ i=gd l cfgD i:=rfl
theorem get_doc (l:List Docu) (i:Int):Data.get ⟨.doc,l⟩ i=gd l docD i:=rfl
theorem get_call (l:List Kall) (i:Int):Data.get ⟨.call,l⟩ i=gd l callD i:=rfl
theorem get_answ (l:List Answ) (i:Int):Data.get ⟨.answ,l⟩ i=gd l answD i:=rfl
theorem get_tokn (l:List Tokn) (i:Int):Data.get ⟨.tokn,l⟩ i=gd l toknD i:=rfl
theorem get_opn (l:List Opn) (i:Int):Data.get ⟨.opn,l⟩ i=gd l opnD i:=rfl
theorem get_nodes (l:List (List Node)) (i:Int):Data.get ⟨.nodes,l⟩ i=gd l [] i:=rfl
attribute [push_cast] get_u8 get_str get_int get_bool get_attr get_node get_rule get_cfg get_doc get_call get_answ get_tokn get_opn get_nodes
attribute [push_cast] vcQ_qb vcQ_bool asB_bool vcX_some vcB_some vcO_none vcO_some vcG_nn vcG_sn vcG_ns vcG_ss vcG_no cjo_none cjo_some cjo_some2 impo_none impo_some vc_nil vc_ret vc_skip vc_seq vc_block vc_exit vc_cond vc_condS vc_region vc_regionD vc_loop vc_inB vc_back vc_join vc_ops0 vc_ops1 vc_opsG preO_none preO_some preR_eq ghoL_nil ghoL_cons ghoS_lit litB litOn litS litE ghoS_opn ghoS_cls ghoS_frz ghoS_nil ghoS_nib ghoS_nid ghoS_nbd nidO nbdO sfo slo slfZ noSlf nil0 setAtS endS_eq nilO nibO nthA setA autoO_load autoO_move autoO_assign autoO_pick autoO_nilCheck autoO_binOp autoO_unOp autoO_makeFunc autoO_slice autoO_fieldAddr autoO_field autoO_indexAddr autoO_index autoO_extract autoO_build autoO_call autoO_alloc autoO_box autoO_buildSlice autoO_makeSlice autoO_store autoO_convert opnS_elp opnS_ptr opnS_dep opnS_rbp opnS_any opnS_zlp opnS_zp opnS_val opnH clsH clsL clsS hasHol hids frzS
 okP_some orH_some orH_none step_move step_assign step_pick step_load step_nilCheck step_binOp step_unOp step_makeFunc step_slice step_fieldAddr step_field step_indexAddr step_index step_extract step_build step_len step_min step_max step_alloc step_box step_buildSlice step_makeSlice step_store step_append step_clear step_convert step_call
 enter1 enterB enterBL enterL slots finP resL res1 resV outsA fin isK stepP stepH callH fndH zclL zclH isNilP pass1 passB passBL noRefM passT passV back1 back0 backF backL backV backA out1 outV outs1 hideC appSrc srcT szT K.flat mkElems K.esz ownCell okRes okResB okRes1 okRes0 scR scR1 scR0 plR plR1 plR0 out0 v0 noRef0 noRef noRef1 isC areC isAggV AV.zr view view1 norm normAll asL Data.asK elemMk cellsOf setAt buildC opReq Op.operands Go.Call.operands ev gt AV.un AV.req put1 exitTo' bin binX gval evx isPick reqx ofVal lenV ldC fieldOf pickV elemCells
 meet meetB part zipK keepK keepV aliK rowBack setBoxes clV cl1 cl0 memN takeVL takeLL boxes takeV take1 takeL take0 takeC bindVL bindLL bindV bind1 bindL bind0 bindC hgt hput
section
variable (E:Env) (all:List Oper) (hs:List Nat) (K:St→Prop) (V:DK) (i:Nat) (is:List Nat) (iv:List (List Nat)) (os:List Oper) (s:St) (l:List Pend) (H0:List (Hp × Nat)) (dst:Option Tmp) (op:Op) (type:TypeId) (pos:String) (after:Array Edge)
theorem drawV_nil:drawV E all hs K [] iv [] s l H0=(pendOk E H0 l∧K s):=rfl
theorem drawV_none:drawV E all hs K (i :: is) iv (⟨dst,op,type,pos,after,none⟩ :: os) s l H0=(bif memN i hs then bif (hdI iv).isEmpty then drH (drawV E all hs K is (tlI iv) os) s dst l H0 (stepH E ⟨dst,op,type,pos,after,none⟩ (ev s.fr) s.hp s.nx) else False
    else drP (drawV E all hs K is (tlI iv) os) s dst (hdI iv) ⟨dst,op,type,pos,after,none⟩ (ev s.fr) l H0 (stepP E ⟨dst,op,type,pos,after,none⟩ (ev s.fr) s.hp)):=rfl
theorem drawV_some (j:Nat) (want:Bool):drawV E all hs K (i :: is) iv (⟨dst,op,type,pos,after,some (j,want)⟩ :: os) s l H0=(bif memN i hs then False else drG (drawV E all hs K is (tlI iv) os) s dst (hdI iv) ⟨dst,op,type,pos,after,none⟩ (evx op s.fr) l H0 (gval all s.fr j want)
    (stepP E ⟨dst,op,type,pos,after,none⟩ (evx op s.fr) s.hp) (reqx op s.fr)):=rfl
theorem altsV_nil:altsV E all hs K s []=True:=rfl
theorem altsV_one (t:Bool) (r:List Nat):altsV E all hs K s [(t,r,iv)]=drawV E all hs K r iv (osOf all (t,r,iv)) s [] [(s.hp,s.nx)]:=and_true _
theorem altsV_cons (t:Bool) (r:List Nat) (A:Alt) (B:List Alt):altsV E all hs K s ((t,r,iv) :: A :: B)=(drawV E all hs K r iv (osOf all (t,r,iv)) s [] [(s.hp,s.nx)]∧altsV E all hs K s (A :: B)):=rfl
theorem osOf_t (r:List Nat):osOf all (true,r,iv)=all:=rfl
theorem osOf_f (r:List Nat):osOf all (false,r,iv)=perO all r:=rfl
theorem perO_nil:perO all []=[]:=rfl
theorem perO_cons (r:List Nat):perO all (i :: r)=perC (nthO all i) (perO all r):=rfl
theorem perC_some (o:Oper):perC (some o) os=o :: os:=rfl
theorem nthO_cons (o:Oper) (n:Nat):nthO (o :: os) n=if n=0 then some o else nthO os (n - 1):=rfl
end
attribute [push_cast] ghoS_drp drpS isI ofVal0 altsV_nil altsV_one altsV_cons osOf_t osOf_f perO_nil perO_cons perC_some nthO_cons
attribute [push_cast] drawV_nil drawV_none drawV_some drP drH drG addP pend1 pendOk hdI tlI List.isEmpty_nil List.isEmpty_cons cond_true cond_false
attribute [push_cast] vcO_nil obnd minmax beq_self_eq_true List.length_append List.append_assoc imp_self beq_iff_eq ite_true ite_false if_true if_false List.toList_toArray List.getD_cons_zero List.getD_cons_succ List.cons_append List.nil_append List.append_nil Option.bind_some
 List.getElem?_cons_zero List.getElem?_cons_succ Bool.false_eq_true List.map_cons List.map_nil List.zip_cons_cons List.zip_nil_left List.zip_nil_right Array.toList_append forall_const and_true true_and Bool.true_and Bool.and_true Bool.or_true Bool.true_or Bool.or_false Bool.false_or Bool.false_and Bool.and_false List.all_cons List.all_nil Option.map_some Option.map_none List.length_cons List.length_nil List.drop_zero List.take_zero List.drop_succ_cons List.take_succ_cons List.drop_nil List.take_nil
end Go.Ab
namespace Go.Ab
open Go
inductive CD where
 | sc (v:Value)
 | sl (e:TypeId) (n:Nat) (els:List (List CD))
abbrev sv (l:Str):Value:=.string ⟨l.toArray⟩
def attrCD (a:Attr):List CD:=[.sc (sv a.name),.sc (sv a.value)]
section
variable (ety:K→TypeId)
def strsCD (l:List Str):CD:=.sl (ety .str) 1 (l.map fun s=>[.sc (sv s)])
mutual
def nodeCD:Node→List CD
 | .mk k s n t a ks=>[.sc (.int .i64 k),.sc (.int .i64 s),.sc (sv n),.sc (sv t),.sl (ety .attr) 2 (a.map attrCD),.sl (ety .node) 6 (nodesCD ks)]
def nodesCD:List Node→List (List CD)
 | []=>[]
 | x :: r=>nodeCD x :: nodesCD r
end
def ruleCD (r:Rule):List CD:=[.sc (.int .i64 r.space),.sc (sv r.name),strsCD ety r.attrs]
def rulesCD (l:List Rule):CD:=.sl (ety .rule) 3 (l.map (ruleCD ety))
def elemCD:(k:K)→k.den→List CD
 | .u8,b=>[.sc (.int .u8 (UInt8.toNat b:Nat))]
 | .str,s=>[.sc (sv s)]
 | .int,n=>[.sc (.int .i64 n)]
 | .bool,b=>[.sc (.bool b)]
 | .attr,a=>attrCD a
 | .node,x=>nodeCD ety x
 | .rule,r=>ruleCD ety r
 | .cfg,c=>[.sc (.bool (Cfg.hasAllow c)),.sc (.bool (Cfg.hasAttrs c)),rulesCD ety (Cfg.allow c),rulesCD ety (Cfg.remove c),rulesCD ety (Cfg.unwrap c),strsCD ety (Cfg.attrs c),strsCD ety (Cfg.drop c),.sc (.bool (Cfg.comments c)),.sc (.bool (Cfg.data c))]
 | .doc,d=>[.sc (sv (Docu.name d)),.sl (ety .node) 6 (nodesCD ety (Docu.kids d))]
 | .call,c=>[.sc (.int .i64 (Kall.kind c)),.sc (.int .i64 (Kall.doc c)),.sc (.int .i64 (Kall.config c)),.sl (ety .int) 1 ((Kall.path c).map fun n=>[.sc (.int .i64 n)]),.sc (sv (Kall.name c)),.sc (sv (Kall.text c))]
 | .answ,a=>[.sc (.int .i64 (Answ.code a)),.sc (sv (Answ.text a))]
 | .tokn,t=>[.sc (.int .i64 (Tokn.kind t)),.sc (.int .i64 (Tokn.pos t)),.sc (.int .i64 (Tokn.len t)),.sc (sv (Tokn.name t)),.sc (sv (Tokn.text t)),.sl (ety .attr) 2 ((Tokn.attrs t).map attrCD),.sc (.bool (Tokn.self t))]
 | .opn,o=>[.sc (sv (Opn.name o)),.sc (.int .i64 (Opn.space o))]
 | .nodes,l=>[.sl (ety .node) 6 (nodesCD ety l)]
def dataCD (d:Data):CD:=.sl (ety d.k) d.k.esz (d.l.map (elemCD ety d.k))
theorem nodesCD_map (l:List Node):nodesCD ety l=l.map (nodeCD ety):=by
 induction l with
 | nil=>simp [nodesCD]
 | cons x r ih=>simp [nodesCD,ih]
theorem nodeCD_eq (x:Node):nodeCD ety x=[.sc (.int .i64 x.kind),.sc (.int .i64 x.space),.sc (sv x.name),.sc (sv x.text),dataCD ety ⟨.attr,x.attrs⟩,dataCD ety ⟨.node,x.kids⟩]:=by
 cases x
 simp [nodeCD,dataCD,K.esz,nodesCD_map,Node.kind,Node.space,Node.name,Node.text,Node.attrs,Node.kids]
 exact ⟨fun _ _=>rfl,fun _ _=>rfl⟩
theorem elemCD_len (k:K) (x:k.den):(elemCD ety k x).length=k.esz:=by
 cases k<;>first | rfl | exact congrArg List.length (nodeCD_eq ety x)
end
section
variable (w:World) (R:Nat→Prop)
inductive Rep:CD→Value→Prop
 | sc (v:Value):Rep (.sc v) v
 | sl (e:TypeId) (n:Nat) (els:List (List CD)) (A:Option Addr) (cap:Nat) (us:Nat→Value) (hcap:els.length≤cap) (hn:∀ row∈els,row.length=n)
   (hc:∀ k cd,els.flatten[k]?=some cd→∃ b o,A=some ⟨b,o,none⟩∧R b∧w.cell? ⟨b,o+k,none⟩=some (us k))
   (hr:∀ k cd,els.flatten[k]?=some cd→Rep cd (us k)):Rep (.sl e n els) (.slice A els.length cap)
def Unf (size n:Nat) (fz:Nat × Nat):Prop:=(∀ i:Nat,i < n→¬ (fz.1≤i∧i < fz.2))∧(1 < size→fz.2≤n)
theorem Unf.zero (size n:Nat):Unf size n (0,0):=⟨fun _ _ h=>absurd h.2 (Nat.not_lt_zero _),fun _=>Nat.zero_le _⟩
def ownR (e0:TypeId) (size:Nat) (v:Value) (n:Nat) (xs:List Value):Prop :=
 xs.length=n * size ∧
 ((v=.slice none 0 0∧n=0) ∨
  ∃ g cap cur fz,v=.slice (some ⟨g,0,none⟩) n cap∧(∃ e,w.heap[g]?=some (.cells cur e fz)∧(e0=0∨e=e0))∧Unf size cur.size fz∧n≤cap∧cap≤maxLen∧cur.size=cap * size∧cur.toList.take (n * size)=xs)
inductive Own:CD→Value→(Nat→Prop)→Prop
 | sc (v:Value) (F:Nat→Prop) (hF:∀ b,¬ F b):Own (.sc v) v F
 | sl (e:TypeId) (n:Nat) (els:List (List CD)) (v:Value) (xs:List Value) (fs:Nat→Nat→Prop) (F:Nat→Prop)
   (ho:ownR w e n v els.length xs) (hn:∀ row∈els,row.length=n)
   (hr:∀ k cd u,els.flatten[k]?=some cd→xs[k]?=some u→Own cd u (fs k))
   (hb:∀ k b,k < xs.length→fs k b→v.ownBlock≠some b)
   (hd:∀ k k' b,k < xs.length→k' < xs.length→fs k b→fs k' b→k=k')
   (hF:∀ b,F b↔v.ownBlock=some b∨∃ k,k < xs.length∧fs k b):Own (.sl e n els) v F
end
def OwnS (w:World) (R:Nat→Prop) (cd:CD) (v:Value) (F:Nat→Prop):Prop :=
 match cd with
 | .sc _=>False
 | .sl e n els=>∃ xs:List Value,ownR w e n v els.length xs∧(∀ row∈els,row.length=n)∧(∀ (k:Nat) (cd:CD) (u:Value),els.flatten[k]?=some cd→xs[k]?=some u→Rep w R cd u)∧∀ b,F b↔v.ownBlock=some b
def OwnO (w:World) (R:Nat→Prop) (o:Bool) (cd:CD) (v:Value) (F:Nat→Prop):Prop:=if o then Own w cd v F else OwnS w R cd v F
theorem flatten_len {α:Type} {l:List (List α)} {n:Nat} (h:∀ row∈l,row.length=n):l.flatten.length=l.length * n:=by
 induction l with
 | nil=>simp
 | cons x r ih =>
  simp only [List.flatten_cons,List.length_append,List.length_cons]
  rw [ih fun y hy=>h y (List.mem_cons_of_mem _ hy),h x List.mem_cons_self,Nat.add_mul]
  omega
theorem flatten_get {α:Type} {l:List (List α)} {n:Nat} (h:∀ row∈l,row.length=n) {i j:Nat} {row:List α} {x:α} (hi:l[i]?=some row) (hj:row[j]?=some x):l.flatten[i * n+j]?=some x:=by
 induction l generalizing i with
 | nil=>simp at hi
 | cons y r ih =>
  have hy:=h y List.mem_cons_self
  cases i with
  | zero =>
   simp at hi
   subst hi
   simp only [List.flatten_cons,Nat.zero_mul,Nat.zero_add]
   rw [List.getElem?_append_left (List.getElem?_eq_some_iff.1 hj).1]
   exact hj
  | succ i =>
   simp at hi
   simp only [List.flatten_cons]
   rw [List.getElem?_append_right (by rw [hy,Nat.add_mul];omega)]
   have:=ih (fun z hz=>h z (List.mem_cons_of_mem _ hz)) hi
   rw [← this]
   congr 1
   rw [hy,Nat.add_mul]
   omega
structure Keep (S:Nat→Prop) (w w':World):Prop where
 os:w'.os=w.os
 tape:w'.tape=w.tape
 output:w'.output=w.output
 size:w.heap.size≤w'.heap.size
 block:∀ b,b < w.heap.size→¬ S b→w'.heap[b]?=w.heap[b]?
theorem Keep.refl (S:Nat→Prop) (w:World):Keep S w w:=⟨rfl,rfl,rfl,Nat.le_refl _,fun _ _ _=>rfl⟩
theorem Keep.trans {S:Nat→Prop} {a b c:World} (h:Keep S a b) (k:Keep S b c):Keep S a c :=
 ⟨k.os.trans h.os,k.tape.trans h.tape,k.output.trans h.output,Nat.le_trans h.size k.size,fun i hi hs=>(k.block i (Nat.lt_of_lt_of_le hi h.size) hs).trans (h.block i hi hs)⟩
theorem Keep.mono {S S':Nat→Prop} {a b:World} (h:Keep S a b) (hs:∀ n,S n→S' n):Keep S' a b :=
 ⟨h.os,h.tape,h.output,h.size,fun i hi hn=>h.block i hi fun e=>hn (hs i e)⟩
theorem lt_of_heap {w:World} {b:Nat} {o:Go.Obj} (h:w.heap[b]?=some o):b < w.heap.size:=(Array.getElem?_eq_some_iff.1 h).1
theorem Rep.keep {w w':World} {R:Nat→Prop} {cd:CD} {v:Value} (h:Rep w R cd v) (hw:∀ b,R b→b < w.heap.size→w'.heap[b]?=w.heap[b]?):Rep w' R cd v:=by
 induction h with
 | sc v=>exact .sc v
 | sl e n els A cap us hcap hn hc hr ih =>
  refine .sl e n els A cap us hcap hn (fun k cd hk=>?_) ih
  obtain ⟨b,o,ha,hb,hu⟩:=hc k cd hk
  exact ⟨b,o,ha,hb,by rw [World.cell?_of_block (hw b hb (World.block_lt_of_cell? w _ hu))];exact hu⟩
theorem Rep.mono {w:World} {R R':Nat→Prop} {cd:CD} {v:Value} (h:Rep w R cd v) (hR:∀ b,R b→R' b):Rep w R' cd v:=by
 induction h with
 | sc v=>exact .sc v
 | sl e n els A cap us hcap hn hc hr ih =>
  refine .sl e n els A cap us hcap hn (fun k cd hk=>?_) ih
  obtain ⟨b,o,ha,hb,hu⟩:=hc k cd hk
  exact ⟨b,o,ha,hR b hb,hu⟩
theorem ownR.keep {w w':World} {e:TypeId} {size:Nat} {v:Value} {n:Nat} {xs:List Value} (h:ownR w e size v n xs) (hw:∀ b,v.ownBlock=some b→w'.heap[b]?=w.heap[b]?):ownR w' e size v n xs:=by
 refine ⟨h.1,?_⟩
 rcases h.2 with hn | ⟨g,cap,cur,fz,rfl,hg,rest⟩
 ·exact .inl hn
 ·exact .inr ⟨g,cap,cur,fz,rfl,by rw [hw g rfl];exact hg,rest⟩
theorem ownR.lt {w:World} {e:TypeId} {size:Nat} {v:Value} {n:Nat} {xs:List Value} (h:ownR w e size v n xs) {b:Nat} (hb:v.ownBlock=some b):b < w.heap.size:=by
 rcases h.2 with ⟨rfl,_⟩ | ⟨g,cap,cur,fz,rfl,⟨e',hg,_⟩,_⟩
 ·simp [Value.ownBlock] at hb
 ·simp [Value.ownBlock] at hb
  subst hb
  exact lt_of_heap hg
theorem ownR.cell {w:World} {e:TypeId} {size:Nat} {v:Value} {n:Nat} {xs:List Value} (h:ownR w e size v n xs) {k:Nat} {u:Value} (hu:xs[k]?=some u) :
  ∃ g cap,v=.slice (some ⟨g,0,none⟩) n cap∧n≤cap∧w.cell? ⟨g,k,none⟩=some u:=by
 rcases h.2 with ⟨rfl,rfl⟩ | ⟨g,cap,cur,fz,rfl,⟨e',hg,_⟩,_,hnc,_,_,ht⟩
 ·have:=h.1
  simp at this
  subst this
  simp at hu
 ·refine ⟨g,cap,rfl,hnc,?_⟩
  rw [cell_of_row w g k cur e' fz hg]
  rw [← ht,List.getElem?_take] at hu
  split at hu
  ·simpa using hu
  ·cases hu
theorem Own.keep {w w':World} {cd:CD} {v:Value} {F:Nat→Prop} (h:Own w cd v F) (hw:∀ b,F b→w'.heap[b]?=w.heap[b]?):Own w' cd v F:=by
 induction h with
 | sc v F hF=>exact .sc v F hF
 | sl e n els v xs fs F ho hn hr hb hd hF ih =>
  refine .sl e n els v xs fs F (ho.keep fun b hb'=>hw b ((hF b).2 (.inl hb'))) hn (fun k cd u hk hu=>ih k cd u hk hu fun b hb'=>hw b ((hF b).2 (.inr ⟨k,(List.getElem?_eq_some_iff.1 hu).1,hb'⟩))) hb hd hF
theorem Own.lt {w:World} {cd:CD} {v:Value} {F:Nat→Prop} (h:Own w cd v F):∀ b,F b→b < w.heap.size:=by
 induction h with
 | sc v F hF=>exact fun b hb=>absurd hb (hF b)
 | sl e n els v xs fs F ho hn hr hb hd hF ih =>
  intro b hb'
  rcases (hF b).1 hb' with h | ⟨k,hk,h⟩
  ·exact ho.lt h
  ·have hlen:els.flatten.length=xs.length:=by rw [flatten_len hn,ho.1]
   exact ih k (els.flatten[k]'(by omega)) (xs[k]'hk) (by simp) (by simp) b h
theorem Own.rep {w:World} {cd:CD} {v:Value} {F R:Nat→Prop} (h:Own w cd v F) (hR:∀ b,F b→R b):Rep w R cd v:=by
 induction h with
 | sc v F hF=>exact .sc v
 | sl e n els v xs fs F ho hn hr hb hd hF ih =>
  have hlen:els.flatten.length=xs.length:=by rw [flatten_len hn,ho.1]
  rcases ho.2 with ⟨rfl,h0⟩ | ⟨g,cap,cur,fz,rfl,⟨e',hg,_⟩,_,hnc,_,_,ht⟩
  ·have hx:els=[]:=List.eq_nil_of_length_eq_zero h0
   subst hx
   exact .sl e n [] none 0 (fun _=>undef) (Nat.le_refl _) hn (fun k cd hk=>by simp at hk) (fun k cd hk=>by simp at hk)
  ·refine .sl e n els (some ⟨g,0,none⟩) cap (fun k=>xs.getD k undef) hnc hn (fun k cd hk=>?_) (fun k cd hk=>?_)
   ·have hk':k < xs.length:=by have:=(List.getElem?_eq_some_iff.1 hk).1;omega
    refine ⟨g,0,rfl,hR g ((hF g).2 (.inl rfl)),?_⟩
    obtain ⟨g',cap',e',_,hc⟩:=ho.cell (k:=k) (u:=xs[k]) (by simp [hk'])
    simp at e'
    obtain ⟨rfl,_⟩:=e'
    rw [Nat.zero_add,hc]
    simp [List.getD,hk']
   ·have hk':k < xs.length:=by have:=(List.getElem?_eq_some_iff.1 hk).1;omega
    have e1:xs.getD k undef=xs[k]:=by simp [List.getD,hk']
    rw [e1]
    exact ih k cd xs[k] hk (by simp [hk']) fun b hb'=>hR b ((hF b).2 (.inr ⟨k,hk',hb'⟩))
theorem OwnS.keep {w w':World} {R:Nat→Prop} {cd:CD} {v:Value} {F:Nat→Prop} (h:OwnS w R cd v F) (hw:∀ b,F b→w'.heap[b]?=w.heap[b]?) (hR:∀ b,R b→b < w.heap.size→w'.heap[b]?=w.heap[b]?):OwnS w' R cd v F:=by
 cases cd with
 | sc u=>exact h.elim
 | sl e n els =>
  obtain ⟨xs,ho,hn,hr,hF⟩:=h
  exact ⟨xs,ho.keep fun b hb=>hw b ((hF b).2 hb),hn,fun k cd u hk hu=>(hr k cd u hk hu).keep hR,hF⟩
theorem OwnS.mono {w:World} {R R':Nat→Prop} {cd:CD} {v:Value} {F:Nat→Prop} (h:OwnS w R cd v F) (hR:∀ b,R b→R' b):OwnS w R' cd v F:=by
 cases cd with
 | sc u=>exact h.elim
 | sl e n els =>
  obtain ⟨xs,ho,hn,hr,hF⟩:=h
  exact ⟨xs,ho,hn,fun k cd u hk hu=>(hr k cd u hk hu).mono hR,hF⟩
theorem OwnS.lt {w:World} {R:Nat→Prop} {cd:CD} {v:Value} {F:Nat→Prop} (h:OwnS w R cd v F) (b:Nat) (hb:F b):b < w.heap.size:=by
 cases cd with
 | sc u=>exact h.elim
 | sl e n els =>
  obtain ⟨xs,ho,hn,hr,hF⟩:=h
  exact ho.lt ((hF b).1 hb)
theorem OwnS.rep {w:World} {R R':Nat→Prop} {cd:CD} {v:Value} {F:Nat→Prop} (h:OwnS w R cd v F) (hF:∀ b,F b→R' b) (hR:∀ b,R b→R' b):Rep w R' cd v:=by
 cases cd with
 | sc u=>exact h.elim
 | sl e n els =>
  obtain ⟨xs,ho,hn,hr,hF'⟩:=h
  have hlen:els.flatten.length=xs.length:=by rw [flatten_len hn,ho.1]
  rcases ho.2 with ⟨rfl,h0⟩ | ⟨g,cap,cur,fz,rfl,⟨e',hg,_⟩,_,hnc,_,_,ht⟩
  ·have hx:els=[]:=List.eq_nil_of_length_eq_zero h0
   subst hx
   exact .sl e n [] none 0 (fun _=>undef) (Nat.le_refl _) hn (fun k cd hk=>by simp at hk) (fun k cd hk=>by simp at hk)
  ·refine .sl e n els (some ⟨g,0,none⟩) cap (fun k=>xs.getD k undef) hnc hn (fun k cd hk=>?_) (fun k cd hk=>?_)
   ·have hk':k < xs.length:=by have:=(List.getElem?_eq_some_iff.1 hk).1;omega
    refine ⟨g,0,rfl,hF g ((hF' g).2 rfl),?_⟩
    obtain ⟨g',cap',e',_,hc⟩:=ho.cell (k:=k) (u:=xs[k]) (by simp [hk'])
    simp at e'
    obtain ⟨rfl,_⟩:=e'
    rw [Nat.zero_add,hc]
    simp [List.getD,hk']
   ·have hk':k < xs.length:=by have:=(List.getElem?_eq_some_iff.1 hk).1;omega
    have e1:xs.getD k undef=xs[k]:=by simp [List.getD,hk']
    rw [e1]
    exact (hr k cd xs[k] hk (by simp [hk'])).mono hR
end Go.Ab
namespace Go.Ab
open Go
structure OI where
 v:Value
 F:Nat→Prop
 k:K
structure Ctx where
 ety:K→TypeId
 w:World
 R:Nat→Prop
 hp:Hp
 nx:Nat
 ob:Nat→OI
inductive RelV (X:Ctx):AV→Value→Prop
 | any (v:Value):RelV X .any v
 | int (k:IntKind) (n:Int):RelV X (.int k n) (.int k n)
 | u8 (b:UInt8):RelV X (.u8 b) (.int .u8 (b.toNat:Nat))
 | bool (b:Bool):RelV X (.bool b) (.bool b)
 | str (l:Str):RelV X (.str l) (sv l)
 | val (v:Value):RelV X (.val v) v
 | nilS:RelV X .nilS (.slice none 0 0)
 | agg (cs:List AV) (vs:Array Value) (hl:cs.length=vs.size) (h:∀ (j:Nat) (c:AV) (u:Value),cs[j]?=some c→vs[j]?=some u→RelV X c u):RelV X (.agg cs) (.agg vs)
 | tup (cs:List AV) (vs:Array Value) (hl:cs.length=vs.size) (h:∀ (j:Nat) (c:AV) (u:Value),cs[j]?=some c→vs[j]?=some u→RelV X c u):RelV X (.tup cs) (.tuple vs)
 | ptr (id off:Nat) (v:Value) (hid:id < X.nx) (h:∃ b,(X.ob id).v=.pointer (some ⟨b,0,none⟩)∧v=.pointer (some ⟨b,off,none⟩)):RelV X (.ptr id off) v
 | row (id:Nat) (v:Value) (hid:id < X.nx) (h:v=(X.ob id).v):RelV X (.row id) v
 | elp (id:Nat) (i:Int) (off:Nat) (v:Value) (hid:id < X.nx)
   (h:0≤i∧∃ g n cap,(X.ob id).v=.slice (some ⟨g,0,none⟩) n cap∧i < n∧v=.pointer (some ⟨g,i.toNat * (X.ob id).k.esz+off,none⟩)):RelV X (.elp id i off) v
 | dat (d:Data) (v:Value) (h:Rep X.w X.R (dataCD X.ety d) v):RelV X (.dat d) v
 | dep (d:Data) (i:Int) (off g o:Nat) (h0:0≤i) (h1:i < d.l.length) (hR:X.R g)
   (h:∀ (j:Nat) (cd:CD),(elemCD X.ety d.k (d.get i))[j]?=some cd→∃ u,X.w.cell? ⟨g,o+i.toNat * d.k.esz+j,none⟩=some u∧Rep X.w X.R cd u):RelV X (.dep d i off) (.pointer (some ⟨g,o+i.toNat * d.k.esz+off,none⟩))
 | fn (f:FuncId) (fs cs:List AV) (fv cv:Array Value) (hf:fs.length=fv.size) (hc:cs.length=cv.size)
   (h1:∀ (j:Nat) (c:AV) (u:Value),fs[j]?=some c→fv[j]?=some u→RelV X c u) (h2:∀ (j:Nat) (c:AV) (u:Value),cs[j]?=some c→cv[j]?=some u→RelV X c u):RelV X (.fn f fs cs) (.func (.func f) fv cv)
 | rbp (cs:List AV) (off b:Nat) (us:Nat→Value) (hR:X.R b) (hc:∀ (j:Nat) (c:AV),cs[j]?=some c→X.w.cell? ⟨b,j,none⟩=some (us j)) (h:∀ (j:Nat) (c:AV),cs[j]?=some c→RelV X c (us j)):RelV X (.rbp cs off) (.pointer (some ⟨b,off,none⟩))
 | qb (b:Bool):RelV X .qb (.bool b)
 | err (b:Bool) (v:Value) (h0:b=false→v=.nilIface) (h1:b=true→∃ t x,v=.iface t x):RelV X (.err b) v
 | rsb (id:Nat) (lo:Int) (v:Value) (hid:id < X.nx) (h0:0≤lo) (h:∃ A n cap,(X.ob id).v=.slice A n cap∧lo≤n∧∃ A' c',v=.slice A' (n - lo.toNat) c'∧(lo < n→∃ g,A=some ⟨g,0,none⟩∧A'=some ⟨g,lo.toNat * (X.ob id).k.esz,none⟩)):RelV X (.rsb id lo) v
 | zp (id id2:Nat) (l:List Node) (p:List Int) (v:Value) (hid:id < X.nx) (hid2:id2 < X.nx) (h:v=(X.ob id2).v) (hn:(atP l p).isNone=true→v=.pointer none) (hs:(atP l p).isNone=false→∃ g b,v=.pointer (some ⟨g,b,none⟩)):RelV X (.zp id id2 l p) v
 | zlp (id id2 off:Nat) (v:Value) (hid:id < X.nx) (hid2:id2 < X.nx) (h:∃ g b,(X.ob id2).v=.pointer (some ⟨g,b,none⟩)∧v=.pointer (some ⟨g,b+off,none⟩)):RelV X (.zlp id id2 off) v
 | slf (id:Nat) (T:TypeId) (v:Value) (hid:id < X.nx) (h:∃ b,(X.ob id).v=.pointer (some ⟨b,0,none⟩)∧(v=.pointer none∨v=.pointer (some ⟨b,0,none⟩))):RelV X (.slf id T) v
 | slb (T:TypeId) (v:Value):RelV X (.slb T) v
 | opt (g:Bool) (x:AV) (v:Value) (h:g=true→RelV X x v) (h0:g=false→v=undef):RelV X (.opt g x) v
structure Ext (X X':Ctx):Prop where
 ety:X'.ety=X.ety
 nx:X.nx≤X'.nx
 R:∀ b,X.R b→X'.R b
 mem:∀ b,X.R b→b < X.w.heap.size→X'.w.heap[b]?=X.w.heap[b]?
 ob:∀ id,id < X.nx→(X'.ob id).v=(X.ob id).v∧(X'.ob id).k=(X.ob id).k
theorem Ext.refl (X:Ctx):Ext X X:=⟨rfl,Nat.le_refl _,fun _ h=>h,fun _ _ _=>rfl,fun _ _=>⟨rfl,rfl⟩⟩
theorem Ext.trans {X Y Z:Ctx} (hl:∀ b,X.R b→b < X.w.heap.size→b < Y.w.heap.size) (h:Ext X Y) (k:Ext Y Z):Ext X Z :=
 ⟨k.ety.trans h.ety,Nat.le_trans h.nx k.nx,fun b hb=>k.R b (h.R b hb),fun b hb hs=>(k.mem b (h.R b hb) (hl b hb hs)).trans (h.mem b hb hs),
  fun id hid=>⟨(k.ob id (Nat.lt_of_lt_of_le hid h.nx)).1.trans (h.ob id hid).1,(k.ob id (Nat.lt_of_lt_of_le hid h.nx)).2.trans (h.ob id hid).2⟩⟩
theorem RelV.ext {X X':Ctx} {c:AV} {v:Value} (h:RelV X c v) (e:Ext X X'):RelV X' c v:=by
 induction h with
 | any v=>exact .any v
 | int k n=>exact .int k n
 | u8 b=>exact .u8 b
 | bool b=>exact .bool b
 | str l=>exact .str l
 | val v=>exact .val v
 | nilS=>exact .nilS
 | agg cs vs hl h ih=>exact .agg cs vs hl ih
 | tup cs vs hl h ih=>exact .tup cs vs hl ih
 | ptr id off v hid h=>exact .ptr id off v (Nat.lt_of_lt_of_le hid e.nx) (by rw [(e.ob id hid).1];exact h)
 | row id v hid h=>exact .row id v (Nat.lt_of_lt_of_le hid e.nx) (by rw [(e.ob id hid).1];exact h)
 | elp id i off v hid h=>exact .elp id i off v (Nat.lt_of_lt_of_le hid e.nx) (by rw [(e.ob id hid).1,(e.ob id hid).2];exact h)
 | dat d v h=>exact .dat d v (by rw [e.ety];exact (h.keep e.mem).mono e.R)
 | dep d i off g o h0 h1 hR h =>
  refine .dep d i off g o h0 h1 (e.R g hR) fun j cd hj=>?_
  rw [e.ety] at hj
  obtain ⟨u,hu,hr⟩:=h j cd hj
  refine ⟨u,?_,(hr.keep e.mem).mono e.R⟩
  rw [World.cell?_of_block (e.mem g hR (World.block_lt_of_cell? _ _ hu))]
  exact hu
 | fn f fs cs fv cv hf hc h1 h2 ih1 ih2=>exact .fn f fs cs fv cv hf hc ih1 ih2
 | rbp cs off b us hR hc h ih=>exact .rbp cs off b us (e.R b hR) (fun j c hj=>by rw [World.cell?_of_block (e.mem b hR (World.block_lt_of_cell? _ _ (hc j c hj)))];exact hc j c hj) ih
 | qb b=>exact .qb b
 | err b v h0 h1=>exact .err b v h0 h1
 | rsb id lo v hid h0 h=>exact .rsb id lo v (Nat.lt_of_lt_of_le hid e.nx) h0 (by rw [(e.ob id hid).1,(e.ob id hid).2];exact h)
 | zp id id2 l p v hid hid2 h hn hs=>exact .zp id id2 l p v (Nat.lt_of_lt_of_le hid e.nx) (Nat.lt_of_lt_of_le hid2 e.nx) (by rw [(e.ob id2 hid2).1];exact h) hn hs
 | zlp id id2 off v hid hid2 h=>exact .zlp id id2 off v (Nat.lt_of_lt_of_le hid e.nx) (Nat.lt_of_lt_of_le hid2 e.nx) (by rw [(e.ob id2 hid2).1];exact h)
 | slf id T v hid h=>exact .slf id T v (Nat.lt_of_lt_of_le hid e.nx) (by rw [(e.ob id hid).1];exact h)
 | slb T v=>exact .slb T v
 | opt g x v h h0 ih=>exact .opt g x v ih h0
structure Beg where
 w0:World
 R0:Nat→Prop
 F0:Nat→Prop
 N:Nat
def HolO (X:Ctx) (d:Data) (i:Int) (cs:List AV) (v:Value) (F:Nat→Prop):Prop :=
 0≤i∧i.toNat < d.l.length∧cs.length=d.k.esz∧∃ (us:List Value) (fs:Nat→Nat→Prop),
  ownR X.w (X.ety d.k) d.k.esz v d.l.length us ∧
  (∀ (j:Nat) (cd:CD) (u:Value),j / d.k.esz≠i.toNat→(d.l.map (elemCD X.ety d.k)).flatten[j]?=some cd→us[j]?=some u→Own X.w cd u (fs j)) ∧
  (∀ (j:Nat) (c:AV) (u:Value),cs[j]?=some c→us[i.toNat * d.k.esz+j]?=some u→RelV X c u∧u.oneCell'=true) ∧
  (∀ j b,j / d.k.esz=i.toNat→¬ fs j b) ∧
  (∀ j k b,j < us.length→k < us.length→fs j b→fs k b→j=k) ∧
  (∀ j b,j < us.length→fs j b→v.ownBlock≠some b) ∧
  ∀ b,F b↔v.ownBlock=some b∨∃ j,j < us.length∧fs j b
theorem HolO.ext {X Y:Ctx} {d:Data} {i:Int} {cs:List AV} {v:Value} {F:Nat→Prop} (h:HolO X d i cs v F) (e:Ext X Y) (hw:∀ b,F b→Y.w.heap[b]?=X.w.heap[b]?):HolO Y d i cs v F:=by
 obtain ⟨h0,h1,h2,us,fs,g1,g2,g3,g4,g5,g6,g7⟩:=h
 refine ⟨h0,h1,h2,us,fs,?_,fun j cd u hj hc hu=>?_,fun j c u hj hu=>⟨(g3 j c u hj hu).1.ext e,(g3 j c u hj hu).2⟩,g4,g5,g6,g7⟩
 ·rw [e.ety]
  exact g1.keep fun b hb=>hw b ((g7 b).2 (.inl hb))
 ·rw [e.ety] at hc
  exact (g2 j cd u hj hc hu).keep fun b hb=>hw b ((g7 b).2 (.inr ⟨j,(List.getElem?_eq_some_iff.1 hu).1,hb⟩))
theorem HolO.lt {X:Ctx} {d:Data} {i:Int} {cs:List AV} {v:Value} {F:Nat→Prop} (h:HolO X d i cs v F) (b:Nat) (hb:F b):b < X.w.heap.size:=by
 obtain ⟨h0,h1,h2,us,fs,g1,g2,g3,g4,g5,g6,g7⟩:=h
 rcases (g7 b).1 hb with h | ⟨j,hj,h⟩
 ·exact g1.lt h
 ·have hlen:(d.l.map (elemCD X.ety d.k)).flatten.length=us.length:=by
   rw [flatten_len (n:=d.k.esz) (fun row hr=>by obtain ⟨x,_,rfl⟩:=List.mem_map.1 hr;exact elemCD_len X.ety d.k x),List.length_map,g1.1]
  exact (g2 j _ us[j] (fun e=>g4 j b e h) (List.getElem?_eq_getElem (by omega)) (List.getElem?_eq_getElem hj)).lt b h
def Wand (ety:K→TypeId) (w:World) (l:List Node) (p:List Int) (v:Value) (F:Nat→Prop) (g b:Nat) (arr:Array Value) (t:TypeId) (fz:Nat × Nat):Prop :=
 ∀ (w':World) (arr':Array Value) (x:Node) (us:List Value) (fs:Nat→Nat→Prop),
  w'.heap[g]?=some (.cells arr' t fz)→arr'.size=arr.size→(∀ i,(i < b∨b+6≤i)→arr'[i]?=arr[i]?)→us.length=6→(∀ j,j < 6→us[j]?=arr'[b+j]?) →
  (∀ c,F c→c≠g→w'.heap[c]?=w.heap[c]?) →
  (∀ (j:Nat) (cd:CD) (u:Value),(elemCD ety .node x)[j]?=some cd→us[j]?=some u→Own w' cd u (fs j)) →
  (∀ j k c,j < 6→k < 6→fs j c→fs k c→j=k)→(∀ j c,j < 6→fs j c→¬ F c) →
  Own w' (dataCD ety ⟨.node,putP l p x⟩) v (fun c=>F c∨∃ j,j < 6∧fs j c)
def ZipO (X:Ctx) (l:List Node) (p:List Int) (cs:List AV) (z v:Value) (F:Nat→Prop):Prop :=
 (cs.length=6∧v.oneCell'=true)∧(∀ b,F b→b < X.w.heap.size)∧∃ us:List Value,us.length=6∧(∀ (j:Nat) (c:AV) (u:Value),cs[j]?=some c→us[j]?=some u→RelV X c u∧u.oneCell'=true) ∧
  ((atP l p).isNone=true→z=.pointer none∧Own X.w (dataCD X.ety ⟨.node,l⟩) v F) ∧
  ((atP l p).isNone=false→∃ g b arr t fz,z=.pointer (some ⟨g,b,none⟩)∧F g∧X.w.heap[g]?=some (.cells arr t fz)∧Unf 6 arr.size fz∧b+6≤arr.size∧(∀ j,j < 6→us[j]?=arr[b+j]?)∧Wand X.ety X.w l p v F g b arr t fz)
theorem ZipO.ext {X Y:Ctx} {l:List Node} {p:List Int} {cs:List AV} {z v:Value} {F:Nat→Prop} (h:ZipO X l p cs z v F) (e:Ext X Y) (hw:∀ b,F b→Y.w.heap[b]?=X.w.heap[b]?):ZipO Y l p cs z v F:=by
 obtain ⟨h1,h2,us,h3,h4,h5,h6⟩:=h
 refine ⟨h1,fun b hb=>?_,us,h3,fun j c u hj hu=>⟨(h4 j c u hj hu).1.ext e,(h4 j c u hj hu).2⟩,fun hn=>?_,fun hs=>?_⟩
 ·have:=hw b hb
  rw [Array.getElem?_eq_getElem (h2 b hb)] at this
  exact lt_of_heap this
 ·obtain ⟨a1,a2⟩:=h5 hn
  rw [e.ety]
  exact ⟨a1,a2.keep hw⟩
 ·obtain ⟨g,b,arr,t,fz,a1,a2,a3,a4,a5,a6,a7⟩:=h6 hs
  refine ⟨g,b,arr,t,fz,a1,a2,by rw [hw g a2];exact a3,a4,a5,a6,?_⟩
  rw [e.ety]
  intro w' arr' x us' fs' b1 b2 b3 b4 b5 b6 b7 b8 b9
  exact a7 w' arr' x us' fs' b1 b2 b3 b4 b5 (fun c hc hn=>(b6 c hc hn).trans (hw c hc)) b7 b8 b9
def TagC (cs:List AV) (t:TypeId):Prop:=∀ (j i:Nat) (T:TypeId),cs[j]?=some (.slf i T)→t=T
def live (X:Ctx) (id:Nat):Prop:=hgt X.hp id≠.dead
def ObjOk (X:Ctx) (id:Nat):Prop :=
 match hgt X.hp id with
 | .box _ cs=>∃ b t arr,(X.ob id).v=.pointer (some ⟨b,0,none⟩)∧X.w.heap[b]?=some (.cells arr t (0,0))∧arr.size=cs.length∧(∀ (j:Nat) (c:AV) (u:Value),cs[j]?=some c→arr[j]?=some u→RelV X c u)∧(∀ n,(X.ob id).F n↔n=b)∧TagC cs t
 | .row o d=>d.k=(X.ob id).k∧OwnO X.w X.R o (dataCD X.ety d) (X.ob id).v (X.ob id).F
 | .hol d i cs=>d.k=(X.ob id).k∧HolO X d i cs (X.ob id).v (X.ob id).F
 | .zip l p id2 cs=>K.node=(X.ob id).k∧(id2 < X.nx∧id2≠id)∧ZipO X l p cs (X.ob id2).v (X.ob id).v (X.ob id).F
 | .dead=>True
class GI where
 p:World→(Nat→Prop)→Prop
 mono:∀ {w w':World} {R R':Nat→Prop},p w R→(∀ b,R b→R' b)→(∀ b,R b→b < w.heap.size→w'.heap[b]?=w.heap[b]?)→p w' R'
variable [GI]
structure WRel (X:Ctx) (G:Beg):Prop where
 ob:∀ id,ObjOk X id
 nxl:∀ id,X.nx≤id→hgt X.hp id=.dead
 dj:∀ id id' b,live X id→live X id'→(X.ob id).F b→(X.ob id').F b→id=id'
 dr:∀ id b,live X id→(X.ob id).F b→¬ X.R b
 rl:∀ b,X.R b→b < X.w.heap.size
 kp:Keep G.F0 G.w0 X.w
 r0:∀ b,G.R0 b→X.R b
 rn:∀ b,X.R b→G.R0 b∨G.w0.heap.size≤b∨G.F0 b
 fn:∀ id b,live X id→(X.ob id).F b→G.w0.heap.size≤b∨G.F0 b
 gi:GI.p X.w X.R
structure SRel (X:Ctx) (G:Beg) (s:St) (a:Act):Prop where
 hp:X.hp=s.hp
 nx:X.nx=s.nx
 sz:a.tmps.size=G.N
 df:a.defers=[]
 fr:∀ n,RelV X (gt s.fr n) (a.tmps.getD n undef)
 wr:WRel X G
theorem live_lt {X:Ctx} {G:Beg} (h:WRel X G) {id:Nat} (hl:live X id):id < X.nx:=by
 rcases Nat.lt_or_ge id X.nx with hlt | hge
 ·exact hlt
 ·exact absurd (h.nxl id hge) hl
theorem RelV.ofVal0 (X:Ctx) (v:Value):RelV X (ofVal0 v) v:=by
 unfold Go.Ab.ofVal0
 split
 ·rename_i n
  split
  ·rename_i hn
   have e:((UInt8.ofNat n.toNat).toNat:Int)=n:=by
    rw [UInt8.toNat_ofNat']
    omega
   have h:=RelV.u8 (X:=X) (UInt8.ofNat n.toNat)
   rw [e] at h
   exact h
  ·exact .val _
 ·exact .int _ _
 ·exact .bool _
 ·rename_i s
  exact .str s.data.toList
 ·exact .nilS
 ·exact .val _
 ·exact .val _
 ·exact .val _
theorem RelV.ofVal (X:Ctx) (v:Value):RelV X (ofVal v) v:=by
 unfold Go.Ab.ofVal
 split
 ·rename_i vs
  refine .agg _ _ (by simp) fun j c u h1 h2=>?_
  rw [List.getElem?_map,Array.getElem?_toList,h2] at h1
  cases h1
  exact .ofVal0 X u
 ·exact .ofVal0 X v
theorem SRel.ev {X:Ctx} {G:Beg} {s:St} {a:Act} (h:SRel X G s a) (x:Operand):RelV X (ev s.fr x) (a.eval x):=by
 cases x with
 | tmp t=>exact h.fr t
 | const v=>exact .ofVal X v
 | global g=>exact .val _
 | func f=>exact .fn f [] [] #[] #[] rfl rfl (fun j c u hj=>by simp at hj) (fun j c u hj=>by simp at hj)
theorem gt_cons (d n:Nat) (v:AV) (fr:Fr):gt ((d,v) :: fr) n=if d=n then v else gt fr n:=rfl
theorem SRel.put {X X':Ctx} {G:Beg} {s:St} {a:Act} {dst:Option Tmp} {v:AV} {u:Value} {hp:Hp} {nx:Nat} (h:SRel X G s a) (e:Ext X X') (hw:WRel X' G) (hhp:X'.hp=hp) (hnx:X'.nx=nx)
  (hd:∀ d,dst=some d→d < G.N) (hv:RelV X' v u):SRel X' G (put1 s dst v hp nx) (a.put dst u):=by
 cases dst with
 | none=>exact ⟨hhp,hnx,h.sz,h.df,fun n=>(h.fr n).ext e,hw⟩
 | some d =>
  refine ⟨hhp,hnx,?_,h.df,fun n=>?_,hw⟩
  ·show (a.tmps.setIfInBounds d u).size=_
   rw [Array.size_setIfInBounds]
   exact h.sz
  ·show RelV X' (if d=n then v else gt s.fr n) ((a.tmps.setIfInBounds d u).getD n undef)
   have hdn:d < a.tmps.size:=by rw [h.sz];exact hd d rfl
   by_cases hn:d=n
   ·subst hn
    rw [if_pos rfl]
    have:(a.tmps.setIfInBounds d u).getD d undef=u:=by simp [Array.getD,hdn]
    rw [this]
    exact hv
   ·rw [if_neg hn]
    have:(a.tmps.setIfInBounds d u).getD n undef=a.tmps.getD n undef:=by
     simp only [Array.getD_eq_getD_getElem?,Array.getElem?_setIfInBounds]
     rw [if_neg hn]
    rw [this]
    exact (h.fr n).ext e
end Go.Ab
namespace Go.Ab
open Go
variable [GI]
def aggB:TypeDesc→Bool
 | .struct _ | .array ..=>true
 | _=>false
def fieldS (P:Program):List Field→Option (List (Nat × Nat × Bool))
 | []=>some []
 | f :: fs=>match P.info? f.type,P.underlying f.type,fieldS P fs with
  | some i,some d,some r=>if i.size=0 then none else some ((f.offset,i.size,aggB d) :: r)
  | _,_,_=>none
def stShape (P:Program) (t:TypeId):Option (Nat × List (Nat × Nat × Bool)) :=
 match P.info? t,P.underlying t with
 | some i,some (.struct fs)=>(fieldS P fs.toList).map fun l=>(i.size,l)
 | _,_=>none
def cv:AV→Option Value
 | .int k n=>some (.int k n)
 | .bool b=>some (.bool b)
 | .str l=>some (sv l)
 | .nilS=>some (.slice none 0 0)
 | .val v=>some v
 | _=>none
def cvs:List AV→Option (List Value)
 | []=>some []
 | c :: cs=>match cv c,cvs cs with
  | some v,some vs=>some (v :: vs)
  | _,_=>none
def convOk (z:AV) (d:TypeDesc):Prop :=
 match z with
 | .str _=>d=.string
 | .int k _=>d=.int k
 | .bool _=>d=.bool
 | .val (.pointer none)=>∃ e,d=.pointer e
 | .val .nilIface=>∃ m,d=.interface m
 | _=>True
def TDok (P:Program) (E:Env) (t:TypeId):TD→Prop
 | .unk=>True
 | .one z=>∃ d zv,(P.info? t).map (fun i=>(i.size,i.zero))=some (1,some zv)∧P.underlying t=some d∧aggB d=false∧cv z=some zv∧convOk z d
 | .st n fs z=>∃ zs,stShape P t=some (n,fs)∧(P.info? t).map (fun i=>i.zero)=some (some (.agg zs))∧cvs z=some zs.toList∧zs.size=n
 | .sl k=>∃ e,(P.info? t).map (fun i=>(i.size,i.zero))=some (1,some (.slice none 0 0))∧P.underlying t=some (.slice e)∧(P.info? e).map (fun i=>i.size)=some k.esz∧(k=.u8→P.underlying e=some (.int .u8)) ∧
   (∃ zv b,(P.info? e).map (fun i=>(i.zero,i.bytes))=some (some zv,b)∧0 < b∧b≤256∧cvs (elemCells k k.dflt |>.map fun | .dat _=>.nilS | .u8 _=>.int .u8 0 | v=>v)=some zv.cells.toList)
inductive RelA (X:Ctx):AV→Value→(Nat→Prop)→Prop
 | pl (c:AV) (v:Value) (F:Nat→Prop) (h:RelV X c v) (hF:∀ b,¬ F b):RelA X c v F
 | own (o:Bool) (d:Data) (v:Value) (F:Nat→Prop) (h:OwnO X.w X.R o (dataCD X.ety d) v F):RelA X (.own o d) v F
 | agg (cs:List AV) (vs:Array Value) (fs:Nat→Nat→Prop) (F:Nat→Prop) (hl:cs.length=vs.size) (h:∀ (j:Nat) (c:AV) (u:Value),cs[j]?=some c→vs[j]?=some u→RelA X c u (fs j))
   (hd:∀ j k b,j < cs.length→k < cs.length→fs j b→fs k b→j=k) (hF:∀ b,F b↔∃ j,j < cs.length∧fs j b):RelA X (.agg cs) (.agg vs) F
 | tup (cs:List AV) (vs:Array Value) (fs:Nat→Nat→Prop) (F:Nat→Prop) (hl:cs.length=vs.size) (h:∀ (j:Nat) (c:AV) (u:Value),cs[j]?=some c→vs[j]?=some u→RelA X c u (fs j))
   (hd:∀ j k b,j < cs.length→k < cs.length→fs j b→fs k b→j=k) (hF:∀ b,F b↔∃ j,j < cs.length∧fs j b):RelA X (.tup cs) (.tuple vs) F
 | pb (cs:List AV) (b:Nat) (t:TypeId) (arr:Array Value) (fs:Nat→Nat→Prop) (F:Nat→Prop) (hb:X.w.heap[b]?=some (.cells arr t (0,0))) (hl:cs.length=arr.size)
   (h:∀ (j:Nat) (c:AV) (u:Value),cs[j]?=some c→arr[j]?=some u→RelA X c u (fs j)) (hd:∀ j k n,j < cs.length→k < cs.length→fs j n→fs k n→j=k)
   (hnb:∀ j,j < cs.length→¬ fs j b) (hF:∀ n,F n↔n=b∨∃ j,j < cs.length∧fs j n)
   (hsf:∀ (j:Nat) (T:TypeId) (u:Value),cs[j]?=some (.slb T)→arr[j]?=some u→(u=.pointer none∨u=.pointer (some ⟨b,0,none⟩))∧t=T):RelA X (.pb cs) (.pointer (some ⟨b,0,none⟩)) F
 | fn (f:FuncId) (cs:List AV) (vs:Array Value) (fs:Nat→Nat→Prop) (F:Nat→Prop) (hl:cs.length=vs.size) (h:∀ (j:Nat) (c:AV) (u:Value),cs[j]?=some c→vs[j]?=some u→RelA X c u (fs j))
   (hd:∀ j k b,j < cs.length→k < cs.length→fs j b→fs k b→j=k) (hF:∀ b,F b↔∃ j,j < cs.length∧fs j b):RelA X (.fn f [] cs) (.func (.func f) #[] vs) F
def ctx0 (ety:K→TypeId) (w:World) (R:Nat→Prop):Ctx:=⟨ety,w,R,[],0,fun _=>⟨undef,fun _=>False,.u8⟩⟩
def inouts:List Md→List Value→List Value
 | m :: ms,v :: vs=>match m with
  | .io=>v :: inouts ms vs
  | _=>inouts ms vs
 | _,_=>[]
def FnOk (P:Program) (ety:K→TypeId) (f:FuncId) (sp:Spec):Prop :=
 ∀ args p r outs,sp.run args=some (p,r,outs)→(∀ q,p=some q→q)→∀ (w:World) (R:Nat→Prop) (vs:Array Value) (F:Nat→Prop),
  RelA (ctx0 ety w R) (.agg args) (.agg vs) F→(∀ b,R b→b < w.heap.size)→(∀ b,F b→¬ R b)→(∀ b,F b→b < w.heap.size)→GI.p w R →
  Calls P f vs w fun e w'=>∃ (v:Value) (R' F':Nat→Prop),e=.returned v∧(∀ b,R b→R' b)∧(∀ b,R' b→b < w'.heap.size)∧(∀ b,R' b→R b∨w.heap.size≤b∨F b) ∧
   RelA (ctx0 ety w' R') (.agg (r :: outs)) (.agg (v :: inouts sp.modes vs.toList).toArray) F'∧(∀ b,F' b→¬ R' b)∧(∀ b,F' b→w.heap.size≤b∨F b)∧Keep F w w'
def EqS2 (P:Program) (t:TypeId):Prop:=∀ (a b c d:Str) (w:World),P.eqGuardType P.depth t=false∧(Op.equalIn 10000 t (.agg #[sv a,sv b]) (.agg #[sv c,sv d])).run P w=.ok (decide (a=c)&&decide (b=d)) w
def EqI (P:Program) (t:TypeId):Prop:=∀ (a c:Str) (b d:Int) (w:World),P.eqGuardType P.depth t=false∧(Op.equalIn 10000 t (.agg #[sv a,.int .i64 b]) (.agg #[sv c,.int .i64 d])).run P w=.ok (decide (a=c)&&decide (b=d)) w
def EqS (P:Program) (T:TD) (t:TypeId):Prop:=match T with
 | .st _ _ z=>(isI z=false→EqS2 P t)∧(isI z=true→EqI P t)
 | _=>True
inductive FR (w:World):Value→Value→List Int→Value→Prop
 | nil (v o):FR w v o [] o
 | out (A n c o) (i:Int) (q) (h:¬ (0≤i∧i < (n:Nat))):FR w (.slice A n c) o (i :: q) (.pointer none)
 | step (g a n c o) (i:Int) (q v' r) (h0:0≤i) (h1:i < (n:Nat)) (hc:w.cell? ⟨g,a+i.toNat * 6+5,none⟩=some v') (hr:FR w v' (.pointer (some ⟨g,a+i.toNat * 6,none⟩)) q r):FR w (.slice (some ⟨g,a,none⟩) n c) o (i :: q) r
def FindOk (P:Program) (f:FuncId):Prop:=(∀ args w,(callFunc f args).run P w=.ok (.enter f args) w) ∧
 ∀ (ety:K→TypeId) (w:World) (R:Nat→Prop) (l:List Node) (p:List Int) (v vp:Value),Rep w R (dataCD ety ⟨.node,l⟩) v→Rep w R (dataCD ety ⟨.int,p⟩) vp→lenZ l p→p.length≤1073741824 →
  Calls P f #[v,vp] w fun e w'=>w'=w∧∃ r,e=.returned r∧FR w v (.pointer none) p r
def InlOk (P:Program) (f:FuncId) (i:Inl):Prop:=(∀ args w,(callFunc f args).run P w=.ok (.enter f args) w) ∧
 ∃ fn,P.funcs[f]?=some fn∧fn.body=some i.c∧fn.results.toList=i.rs∧(okC i.c&&(wr i.c).all fun d=>decide (d < fn.ntmps))=true
structure EnvOk (P:Program) (E:Env):Prop where
 eqt:∀ t,E.eqt t=true→EqS P (E.td t) t
 mix:P.follows .mixedOrders=true
 td:∀ t,TDok P E t (E.td t)
 cal:∀ f sp,E.cal f=some sp→FnOk P E.ety f sp
 ent:∀ f sp,E.cal f=some sp→∀ args w,(callFunc f args).run P w=.ok (.enter f args) w
 inl:∀ f i,E.inl f=some i→InlOk P f i
 fnd:∀ f,E.fnd f=true→FindOk P f
 tg:∀ t k,E.td t=.sl k→∀ e,P.underlying t=some (.slice e)→E.ety k=0∨e=E.ety k
theorem EnvOk.inner {P:Program} {E:Env} (h:EnvOk P E) (i:Inl):EnvOk P (i.env E):=⟨h.eqt,h.mix,fun t=>by
 have:=h.td t
 show TDok P (i.env E) t (E.td t)
 unfold TDok at this ⊢
 exact this,h.cal,h.ent,h.inl,h.fnd,h.tg⟩
section
theorem pure_wp {P:Program} {o:Oper} {a:Act} {K:Act→World→Prop} {Q:Exit→Act→World→Prop} {w:World} {u:Value} (hr:(execOp a.eval o).run P w=.ok (.value u) w) (hK:K (a.put o.dst u) w):o.wp P a w K Q:=by
 unfold Oper.wp
 rw [hr]
 exact hK
def OpP (P:Program) (X:Ctx) (G:Beg) (o:Oper) (a:Act) (v:AV):Prop :=
 ∀ (K:Act→World→Prop) (Q:Exit→Act→World→Prop),(∀ X' u,Ext X X'→WRel X' G→X'.hp=X.hp→X'.nx=X.nx→RelV X' v u→K (a.put o.dst u) X'.w)→o.wp P a X.w K Q
theorem OpP.of {P:Program} {X:Ctx} {G:Beg} {o:Oper} {a:Act} {v:AV} {u:Value} (hw:WRel X G) (hr:(execOp a.eval o).run P X.w=.ok (.value u) X.w) (hv:RelV X v u):OpP P X G o a v :=
 fun _ _ h=>pure_wp hr (h X u (.refl X) hw rfl rfl hv)
end
theorem RelV.int_inv {X:Ctx} {k n v} (h:RelV X (.int k n) v):v=.int k n:=by cases h;rfl
theorem RelV.u8_inv {X:Ctx} {b v} (h:RelV X (.u8 b) v):v=.int .u8 (b.toNat:Nat):=by cases h;rfl
theorem RelV.bool_inv {X:Ctx} {b v} (h:RelV X (.bool b) v):v=.bool b:=by cases h;rfl
theorem RelV.str_inv {X:Ctx} {l v} (h:RelV X (.str l) v):v=sv l:=by cases h;rfl
theorem RelV.un {X:Ctx} {c:AV} {v:Value} (h:RelV X c v) (hq:∀ q,c.req=some q→q):RelV X c.un v:=by
 cases h with
 | opt g x v h h0 =>
  show RelV X x v
  exact h (hq _ rfl)
 | _=>constructor<;>assumption
theorem cjo_all {a b:Option Prop} (h:∀ q,cjo a b=some q→q):(∀ q,a=some q→q)∧(∀ q,b=some q→q):=by
 cases a with
 | none=>exact ⟨(fun q e=>by cases e),fun q e=>h q e⟩
 | some x =>
  cases b with
  | none=>exact ⟨(fun q e=>by cases e;exact h _ rfl),(fun q e=>by cases e)⟩
  | some y=>exact ⟨(fun q e=>by cases e;exact (h _ rfl).1),(fun q e=>by cases e;exact (h _ rfl).2)⟩
theorem impo_all {c:Prop} {a:Option Prop} (h:∀ q,impo c a=some q→q) (hc:c):∀ q,a=some q→q:=by
 cases a with
 | none=>intro q e;cases e
 | some x=>intro q e;cases e;exact h _ rfl hc
theorem pick_one {X:Ctx} {x y:AV} {vx vy:Value} {cb:Bool} (hx:RelV X x vx) (hy:RelV X y vy) (hp:∀ q,cjo (impo (cb=true) x.req) (impo (cb=false) y.req)=some q→q) :
  RelV X (bif cb then x.un else y.un) (if cb then vx else vy):=by
 have ⟨h1,h2⟩:=cjo_all hp
 cases cb with
 | true=>exact hx.un (impo_all h1 rfl)
 | false=>exact hy.un (impo_all h2 rfl)
theorem pick_sound {X:Ctx} {c x y:AV} {vc vx vy:Value} {p:Option Prop} {v:AV} (hc:RelV X c vc) (hx:RelV X x vx) (hy:RelV X y vy) (h:pickV c x y=some (p,v)) (hp:∀ q,p=some q→q) :
  ∃ b,vc=.bool b∧RelV X v (if b then vx else vy):=by
 unfold pickV at h
 split at h
 case h_5 =>
  rename_i cb hcu hyu
  simp only [Option.some.injEq,Prod.mk.injEq] at h
  obtain ⟨rfl,rfl⟩:=h
  have ⟨h0,h1⟩:=cjo_all hp
  have ⟨h2,h3⟩:=cjo_all h1
  have hq:cb=true:=h2 _ rfl
  have hcb:=hc.un h0
  rw [hcu] at hcb
  subst hq
  exact ⟨true,hcb.bool_inv,hx.un h3⟩
 case h_6 =>
  rename_i cb hcu hxu _
  simp only [Option.some.injEq,Prod.mk.injEq] at h
  obtain ⟨rfl,rfl⟩:=h
  have ⟨h0,h1⟩:=cjo_all hp
  have ⟨h2,h3⟩:=cjo_all h1
  have hq:cb=false:=h2 _ rfl
  have hcb:=hc.un h0
  rw [hcu] at hcb
  subst hq
  exact ⟨false,hcb.bool_inv,hy.un h3⟩
 all_goals first
  | (rename_i cb xb yb hcu hxu hyu
     simp only [Option.some.injEq,Prod.mk.injEq] at h
     obtain ⟨rfl,rfl⟩:=h
     have ⟨h0,h1⟩:=cjo_all hp
     have hcb:=hc.un h0
     rw [hcu] at hcb
     refine ⟨cb,hcb.bool_inv,?_⟩
     have:=pick_one hx hy h1
     rw [hxu,hyu] at this
     cases cb<;>exact this)
  | cases h
end Go.Ab
namespace Go.Ab
open Go
variable [GI]
theorem wrap_i64 {n:Int} (h:i64ok n):IntKind.i64.wrap n=n:=IntWalk.i64_in n h
theorem wrap_u8 {n:Int} (h:u8ok n):IntKind.u8.wrap n=n:=wraps_u8 n h.1 (by have:=h.2;omega)
theorem div_ok {a b:Int} (h0:0≤a) (hb:0 < b):a.tdiv b=a / b∧a.tmod b=a % b∧0≤a / b∧a / b≤a:=by
 refine ⟨Int.tdiv_eq_ediv_of_nonneg h0,Int.tmod_eq_emod_of_nonneg h0,Int.ediv_nonneg h0 (Int.le_of_lt hb),?_⟩
 exact Int.ediv_le_self b h0
section
variable {P:Program} {t:TypeId} {w:World}
theorem run_quo64 {a b:Int} (h0:0≤a) (h1:a≤9223372036854775807) (hb:0 < b):(binOp .quo t (.int .i64 a) (.int .i64 b)).run P w=.ok (.int .i64 (a / b)) w:=by
 obtain ⟨e1,_,e3,e4⟩:=div_ok h0 hb
 have hne:¬ b=0:=by omega
 simp only [binOp,ne_eq,not_true_eq_false,ite_false,Op.intDiv,hne,Sem.run_pure,e1]
 rw [wrap_i64 ⟨by omega,by omega⟩]
theorem run_rem64 {a b:Int} (h0:0≤a) (hb:0 < b):(binOp .rem t (.int .i64 a) (.int .i64 b)).run P w=.ok (.int .i64 (a % b)) w:=by
 obtain ⟨_,e2,_,_⟩:=div_ok h0 hb
 have hne:¬ b=0:=by omega
 simp only [binOp,ne_eq,not_true_eq_false,ite_false,Op.intDiv,hne,Sem.run_pure,e2]
theorem u8_add (a b:UInt8):IntKind.u8.wrap ((a.toNat:Int)+(b.toNat:Int))=((a+b).toNat:Int):=by
 rw [IntKind.wrap_u8,UInt8.toNat_add]
 omega
theorem u8_sub (a b:UInt8):IntKind.u8.wrap ((a.toNat:Int) - (b.toNat:Int))=((a - b).toNat:Int):=by
 have h1:=a.toNat_lt
 have h2:=b.toNat_lt
 rw [IntKind.wrap_u8,UInt8.toNat_sub]
 omega
theorem u8_ne {b:UInt8} (h:b≠0):0 < b.toNat:=by
 rcases Nat.eq_zero_or_pos b.toNat with h0 | h0
 ·exact absurd (UInt8.toNat_inj.1 (by simpa using h0)) h
 ·exact h0
theorem run_quo8 {a b:UInt8} (hb:b≠0):(binOp .quo t (.int .u8 (a.toNat:Nat)) (.int .u8 (b.toNat:Nat))).run P w=.ok (.int .u8 ((a / b).toNat:Nat)) w:=by
 have h1:=a.toNat_lt
 have h2:=u8_ne hb
 obtain ⟨e1,_,e3,e4⟩:=div_ok (a:=(a.toNat:Int)) (b:=(b.toNat:Int)) (by omega) (by omega)
 have hne:¬ ((b.toNat:Nat):Int)=0:=by omega
 simp only [binOp,ne_eq,not_true_eq_false,ite_false,Op.intDiv,hne,Sem.run_pure,e1]
 rw [wrap_u8 ⟨by omega,by omega⟩,UInt8.toNat_div]
 rfl
theorem run_rem8 {a b:UInt8} (hb:b≠0):(binOp .rem t (.int .u8 (a.toNat:Nat)) (.int .u8 (b.toNat:Nat))).run P w=.ok (.int .u8 ((a % b).toNat:Nat)) w:=by
 have h2:=u8_ne hb
 obtain ⟨_,e2,_,_⟩:=div_ok (a:=(a.toNat:Int)) (b:=(b.toNat:Int)) (by omega) (by omega)
 have hne:¬ ((b.toNat:Nat):Int)=0:=by omega
 simp only [binOp,ne_eq,not_true_eq_false,ite_false,Op.intDiv,hne,Sem.run_pure,e2]
 rw [UInt8.toNat_mod]
 rfl
theorem u8_lt (a b:UInt8):decide ((a.toNat:Int) < (b.toNat:Int))=decide (a < b):=by
 rw [decide_eq_decide,UInt8.lt_iff_toNat_lt]
 omega
theorem u8_le (a b:UInt8):decide ((a.toNat:Int)≤(b.toNat:Int))=decide (a≤b):=by
 rw [decide_eq_decide,UInt8.le_iff_toNat_le]
 omega
theorem u8_eq (a b:UInt8):((a.toNat:Int) == (b.toNat:Int))=decide (a=b):=by
 rw [Bool.eq_iff_iff,beq_iff_eq,decide_eq_true_iff,← UInt8.toNat_inj]
 omega
theorem run_cat {a b:Str} (h:a.length+b.length≤9223372036854775807):(binOp .add t (sv a) (sv b)).run P w=.ok (sv (a++b)) w:=by
 have hs:¬ ((((⟨a.toArray⟩:ByteArray).size+(⟨b.toArray⟩:ByteArray).size:Nat):Int) > IntKind.i64.max):=by
  show ¬ (((a.toArray.size+b.toArray.size:Nat):Int) > IntKind.i64.max)
  simp only [List.size_toArray]
  show ¬ (((a.length+b.length:Nat):Int) > 9223372036854775807)
  omega
 simp only [binOp,Op.stringOp]
 rw [if_neg hs]
 show Result.ok _ w=_
 congr 2
theorem str_eq (a b:Str):(a == b)=decide (a=b):=by
 by_cases h:a=b
 ·simp [h]
 ·simp [h]
end
theorem run_shr8 {P:Program} {t:TypeId} {w:World} {a:UInt8} {n:Int} (h0:0≤n) (h1:n≤7):(binOp .shr t (.int .u8 (a.toNat:Nat)) (.int .u64 n)).run P w=.ok (.int .u8 ((UInt8.ofNat (a.toNat / 2 ^ n.toNat)).toNat:Nat)) w:=by
 simp only [binOp,Op.shift]
 rw [if_neg (by omega)]
 have hb:IntKind.u8.bits=8:=rfl
 have hm:min n.toNat IntKind.u8.bits=n.toNat:=by rw [hb];omega
 simp only [hm,Sem.run_pure]
 congr 2
 have h2:=a.toNat_lt
 have h3:a.toNat / 2 ^ n.toNat≤a.toNat:=Nat.div_le_self _ _
 rw [Int.fdiv_eq_ediv_of_nonneg _ (by exact_mod_cast Nat.zero_le _),UInt8.toNat_ofNat']
 rw [Nat.mod_eq_of_lt (by omega)]
 push_cast
 rfl
theorem run_and8 {P:Program} {t:TypeId} {w:World} {a b:UInt8}:(binOp .and t (.int .u8 (a.toNat:Nat)) (.int .u8 (b.toNat:Nat))).run P w=.ok (.int .u8 ((a &&& b).toNat:Nat)) w:=by
 have e:∀ c:UInt8,BitVec.ofInt IntKind.u8.bits (c.toNat:Int)=c.toBitVec:=fun c=>by
  show BitVec.ofInt 8 _=_
  rw [BitVec.ofInt_natCast]
  apply BitVec.eq_of_toNat_eq
  have:=c.toNat_lt
  simp
 simp only [binOp,ne_eq,not_true_eq_false,ite_false,Op.intBits,e,Sem.run_pure]
 congr 2
 have h:=(a &&& b).toNat_lt
 have e2:(BitVec.toNat (a.toBitVec &&& b.toBitVec))=(a &&& b).toNat:=rfl
 show IntKind.u8.wrap ((BitVec.toNat (a.toBitVec &&& b.toBitVec):Nat):Int)=_
 rw [e2]
 exact wrap_u8 ⟨by omega,by omega⟩
theorem bin_sound {P:Program} {op:BinOp} {x y:AV} {vx vy:Value} {p:Option Prop} {v:AV} {X:Ctx} (hx:RelV X x vx) (hy:RelV X y vy) (h:bin op x y=some (p,v)) (hp:∀ q,p=some q→q) (t:TypeId) (ox oy:Operand) (w:World) :
  ∃ u,(eqGuard op t ox oy vx vy).run P w=.ok () w∧(binOp op t vx vy).run P w=.ok u w∧RelV X v u:=by
 unfold bin at h
 split at h
 -- add,sub,mul
 case h_1 | h_2 | h_3 =>
  simp only [Option.some.injEq,Prod.mk.injEq] at h
  obtain ⟨rfl,rfl⟩:=h
  cases hx.int_inv;cases hy.int_inv
  have hq:=hp _ rfl
  exact ⟨_,rfl,by simp only [binOp,ne_eq,not_true_eq_false,ite_false,Op.intArith,Sem.run_pure,wrap_i64 hq],.int _ _⟩
 case h_4 =>
  simp only [Option.some.injEq,Prod.mk.injEq] at h
  obtain ⟨rfl,rfl⟩:=h
  cases hx.int_inv;cases hy.int_inv
  obtain ⟨h0,h1,h2⟩:=hp _ rfl
  exact ⟨_,rfl,run_quo64 h0 h1 h2,.int _ _⟩
 case h_5 =>
  simp only [Option.some.injEq,Prod.mk.injEq] at h
  obtain ⟨rfl,rfl⟩:=h
  cases hx.int_inv;cases hy.int_inv
  obtain ⟨h0,h2⟩:=hp _ rfl
  exact ⟨_,rfl,run_rem64 h0 h2,.int _ _⟩
 case h_6 =>
  simp only [Option.some.injEq,Prod.mk.injEq] at h
  obtain ⟨rfl,rfl⟩:=h
  cases hx.u8_inv;cases hy.u8_inv
  exact ⟨_,rfl,by simp only [binOp,ne_eq,not_true_eq_false,ite_false,Op.intArith,Sem.run_pure,u8_add],.u8 _⟩
 case h_7 =>
  simp only [Option.some.injEq,Prod.mk.injEq] at h
  obtain ⟨rfl,rfl⟩:=h
  cases hx.u8_inv;cases hy.u8_inv
  exact ⟨_,rfl,by simp only [binOp,ne_eq,not_true_eq_false,ite_false,Op.intArith,Sem.run_pure,u8_sub],.u8 _⟩
 case h_8 =>
  simp only [Option.some.injEq,Prod.mk.injEq] at h
  obtain ⟨rfl,rfl⟩:=h
  cases hx.u8_inv;cases hy.u8_inv
  exact ⟨_,rfl,run_quo8 (hp _ rfl),.u8 _⟩
 case h_9 =>
  simp only [Option.some.injEq,Prod.mk.injEq] at h
  obtain ⟨rfl,rfl⟩:=h
  cases hx.u8_inv;cases hy.u8_inv
  exact ⟨_,rfl,run_rem8 (hp _ rfl),.u8 _⟩
 case h_22 =>
  simp only [Option.some.injEq,Prod.mk.injEq] at h
  obtain ⟨rfl,rfl⟩:=h
  cases hx.str_inv;cases hy.str_inv
  exact ⟨_,rfl,run_cat (hp _ rfl),.str _⟩
 case h_29 =>
  simp only [Option.some.injEq,Prod.mk.injEq] at h
  obtain ⟨rfl,rfl⟩:=h
  cases hx.u8_inv;cases hy.int_inv
  obtain ⟨h0,h1⟩:=hp _ rfl
  exact ⟨_,rfl,run_shr8 h0 h1,.u8 _⟩
 case h_30 =>
  simp only [Option.some.injEq,Prod.mk.injEq] at h
  obtain ⟨rfl,rfl⟩:=h
  cases hx.u8_inv;cases hy.u8_inv
  exact ⟨_,rfl,run_and8,.u8 _⟩
 case h_31=>cases h
 all_goals first
  | (simp only [Option.some.injEq,Prod.mk.injEq] at h
     obtain ⟨rfl,rfl⟩:=h
     cases hx.int_inv;cases hy.int_inv
     exact ⟨_,rfl,rfl,.bool _⟩)
  | (simp only [Option.some.injEq,Prod.mk.injEq] at h
     obtain ⟨rfl,rfl⟩:=h
     cases hx.u8_inv;cases hy.u8_inv
     refine ⟨_,rfl,by simp only [binOp,ne_eq,not_true_eq_false,ite_false,Op.intCmp,Sem.run_pure,bne];rfl,?_⟩
     simp only [gt_iff_lt,ge_iff_le,u8_lt,u8_le,u8_eq]
     exact .bool _)
  | (simp only [Option.some.injEq,Prod.mk.injEq] at h
     obtain ⟨rfl,rfl⟩:=h
     cases hx.str_inv;cases hy.str_inv
     refine ⟨_,rfl,by simp only [binOp,Op.stringOp,Sem.run_pure];rfl,?_⟩
     simp only [ByteArray.toList_mk,str_eq]
     exact .bool _)
end Go.Ab
namespace Go.Ab
open Go
variable [GI]
def cellCD (ety:K→TypeId):AV→CD
 | .u8 b=>.sc (.int .u8 (b.toNat:Nat))
 | .int k n=>.sc (.int k n)
 | .bool b=>.sc (.bool b)
 | .str l=>.sc (sv l)
 | .dat d=>dataCD ety d
 | _=>.sc undef
def plainC:AV→Bool
 | .u8 _ | .int .. | .bool _ | .str _ | .dat _=>true
 | _=>false
theorem elemCD_cells (ety:K→TypeId) (k:K) (x:k.den):elemCD ety k x=(elemCells k x).map (cellCD ety):=by
 cases k with
 | node=>exact nodeCD_eq ety x
 | doc=>exact congrArg (fun l=>[CD.sc (sv (Docu.name x)),CD.sl (ety .node) 6 l]) (nodesCD_map ety (Docu.kids x))
 | nodes=>exact congrArg (fun l=>[CD.sl (ety .node) 6 l]) (nodesCD_map ety x)
 | _=>rfl
theorem elemCells_plain (k:K) (x:k.den):∀ c∈elemCells k x,plainC c=true:=by
 cases k<;>intro c hc<;>(simp [elemCells] at hc;(try (rcases hc with rfl | rfl | rfl | rfl | rfl | rfl | rfl | rfl | rfl));(try (rcases hc with rfl | rfl | rfl | rfl | rfl | rfl | rfl));(try (rcases hc with rfl | rfl | rfl | rfl | rfl | rfl));(try (rcases hc with rfl | rfl | rfl));(try (rcases hc with rfl | rfl));(try subst hc))<;>rfl
theorem elemCells_len (k:K) (x:k.den):(elemCells k x).length=k.esz:=by cases k<;>rfl
theorem rel_of_rep {X:Ctx} {c:AV} {u:Value} (hc:plainC c=true) (h:Rep X.w X.R (cellCD X.ety c) u):RelV X c u:=by
 cases c with
 | int k n=>cases h;exact .int k n
 | u8 b=>cases h;exact .u8 b
 | bool b=>cases h;exact .bool b
 | str l=>cases h;exact .str l
 | dat d=>exact .dat d u h
 | _=>cases hc
theorem info_of {P:Program} {t:TypeId} {α:Type} {f:TypeInfo→α} {x:α} (h:(P.info? t).map f=some x):∃ i,P.info? t=some i∧f i=x:=by
 cases hi:P.info? t with
 | none=>rw [hi] at h;cases h
 | some i=>rw [hi] at h;exact ⟨i,rfl,by simpa using h⟩
theorem run_sizeOf' {P:Program} {t:TypeId} {i:TypeInfo} (h:P.info? t=some i) (w:World):(sizeOf t).run P w=.ok i.size w:=by
 simp [sizeOf,typeInfo,h]
theorem run_isAgg {P:Program} {t:TypeId} {d:TypeDesc} (h:P.underlying t=some d) (w:World):(isAgg t).run P w=.ok (aggB d) w:=by
 unfold isAgg
 simp only [Sem.run_bind,run_underlying h,Result.andThen_ok]
 cases d<;>rfl
theorem run_loadVar_one {P:Program} {t:TypeId} {d:TypeDesc} {w:World} {ad:Addr} {v:Value} (h:P.underlying t=some d) (hd:aggB d=false) (hv:w.cell? ad=some v):(loadVar t ad).run P w=.ok v w:=by
 simp [loadVar,run_isAgg h,hd,hv]
theorem run_loadVar_agg {P:Program} {t:TypeId} {d:TypeDesc} {i:TypeInfo} {w:World} {ad:Addr} {cs:List Value} (h:P.underlying t=some d) (hd:aggB d=true) (hi:P.info? t=some i) (hn:i.size=cs.length)
  (hv:∀ (j:Nat) (v:Value),cs[j]?=some v→w.cell? (ad.add j)=some v):(loadVar t ad).run P w=.ok (.agg cs.toArray) w:=by
 simp [loadVar,run_isAgg h,hd,run_sizeOf' hi,hn,run_loadCells_list (P:=P) w ad cs hv]
theorem stShape_inv {P:Program} {t:TypeId} {n:Nat} {fs:List (Nat × Nat × Bool)} (h:stShape P t=some (n,fs)):∃ i flds,P.info? t=some i∧i.size=n∧P.underlying t=some (.struct flds)∧fieldS P flds.toList=some fs:=by
 unfold stShape at h
 split at h
 ·rename_i i flds hi hu
  cases hf:fieldS P flds.toList with
  | none=>rw [hf] at h;cases h
  | some l =>
   rw [hf] at h
   simp only [Option.map_some,Option.some.injEq,Prod.mk.injEq] at h
   obtain ⟨rfl,rfl⟩:=h
   exact ⟨i,flds,hi,rfl,hu,hf⟩
 ·cases h
theorem fieldS_get {P:Program}:∀ {l:List Field} {r:List (Nat × Nat × Bool)} {j:Nat} {fo sz:Nat} {ag:Bool},fieldS P l=some r→r[j]?=some (fo,sz,ag) →
  ∃ f i d,l[j]?=some f∧f.offset=fo∧P.info? f.type=some i∧i.size=sz∧sz≠0∧P.underlying f.type=some d∧aggB d=ag
 | [],r,j,fo,sz,ag,h,hj=>by simp [fieldS] at h;subst h;simp at hj
 | f :: l,r,j,fo,sz,ag,h,hj=>by
  unfold fieldS at h
  split at h
  ·rename_i i d r' hi hu hr
   split at h
   ·cases h
   ·rename_i hsz
    cases h
    cases j with
    | zero=>simp at hj;obtain ⟨rfl,rfl,rfl⟩:=hj;exact ⟨f,i,d,rfl,rfl,hi,rfl,hsz,hu,rfl⟩
    | succ j=>exact fieldS_get (l:=l) hr (by simpa using hj)
  ·cases h
theorem run_fieldAt {P:Program} {S:TypeId} {n:Nat} {fs:List (Nat × Nat × Bool)} {f fo sz:Nat} {ag:Bool} {g off:Nat} {w:World} (h:stShape P S=some (n,fs)) (hf:fs[f]?=some (fo,sz,ag)) :
  (Instr.fieldAt S (.pointer (some ⟨g,off,none⟩)) f).run P w=.ok (.pointer (some ⟨g,off+fo,none⟩)) w:=by
 obtain ⟨i,flds,hi,_,hu,hfs⟩:=stShape_inv h
 obtain ⟨fd,j,d,hl,ho,hj,hsz,hne,hd,hag⟩:=fieldS_get hfs hf
 have hl':flds[f]?=some fd:=by simpa using hl
 simp [Instr.fieldAt,run_underlying hu,hl',Instr.sureAddr,fieldPlace,run_sizeOf' hj,hsz,hne,ho,Addr.add_lit]
theorem fieldOf_inv {P:Program} {E:Env} {S:TypeId} {f fo sz:Nat} {ag:Bool} (hE:EnvOk P E) (h:fieldOf (E.td S) f=some (fo,sz,ag)):∃ n fs,stShape P S=some (n,fs)∧fs[f]?=some (fo,sz,ag):=by
 have ht:=hE.td S
 unfold fieldOf at h
 split at h
 ·rename_i n fs z htd
  rw [htd] at ht
  obtain ⟨zs,h1,_⟩:=ht
  exact ⟨n,fs,h1,h⟩
 ·cases h
section
variable {P:Program} {E:Env} {X:Ctx} {G:Beg} {o:Oper} {a:Act}
theorem ld_sound (hE:EnvOk P E) {t:TypeId} {cs:List AV} {off:Nat} {v:AV} (h:ldC (E.td t) cs off=some v) {g b:Nat}
  (hc:∀ (j:Nat) (c:AV),cs[j]?=some c→∃ u,X.w.cell? ⟨g,b+j,none⟩=some u∧RelV X c u):∃ u,(loadVar t ⟨g,b+off,none⟩).run P X.w=.ok u X.w∧RelV X v u:=by
 have ht:=hE.td t
 have single:∀ (d:TypeDesc),P.underlying t=some d→aggB d=false→cs[off]?=some v→∃ u,(loadVar t ⟨g,b+off,none⟩).run P X.w=.ok u X.w∧RelV X v u:=by
  intro d hu hd hv
  obtain ⟨u,hu',hr⟩:=hc off v hv
  exact ⟨u,run_loadVar_one hu hd hu',hr⟩
 unfold ldC at h
 split at h
 ·rename_i n fs z htd
  rw [htd] at ht
  obtain ⟨zs,hs,_⟩:=ht
  obtain ⟨i,flds,hi,hn,hu,_⟩:=stShape_inv hs
  split at h
  ·rename_i hle
   cases h
   have hget:∀ j,j < n→∃ c u,cs[off+j]?=some c∧X.w.cell? ⟨g,b+(off+j),none⟩=some u∧RelV X c u:=by
    intro j hj
    have hlt:off+j < cs.length:=by omega
    obtain ⟨u,hu,hr⟩:=hc (off+j) cs[off+j] (List.getElem?_eq_getElem hlt)
    exact ⟨_,u,List.getElem?_eq_getElem hlt,hu,hr⟩
   let us:List Value:=(List.range n).map fun j=>(X.w.cell? ⟨g,b+(off+j),none⟩).getD undef
   have hus:∀ (j:Nat) (u:Value),us[j]?=some u→X.w.cell? ((⟨g,b+off,none⟩:Addr).add j)=some u:=by
    intro j u hju
    have hj:j < n:=by have:=(List.getElem?_eq_some_iff.1 hju).1;simpa [us] using this
    obtain ⟨c,u',_,hcell,_⟩:=hget j hj
    rw [Addr.add_lit,Nat.add_assoc,hcell]
    simp [us,hj,hcell] at hju
    rw [hju]
   refine ⟨.agg us.toArray,run_loadVar_agg hu rfl hi (by simp [us,hn]) hus,.agg _ _ ?_ ?_⟩
   ·simp [us]
    omega
   ·intro j c u hj hju
    have hjn:j < n:=by have:=(List.getElem?_eq_some_iff.1 hj).1;simp at this;omega
    obtain ⟨c',u',h1,h2,h3⟩:=hget j hjn
    rw [List.getElem?_take,if_pos hjn,List.getElem?_drop,h1] at hj
    cases hj
    simp [us,hjn,h2] at hju
    subst hju
    exact h3
  ·cases h
 ·cases h
 ·rename_i hn1 hn2
  cases htd:E.td t with
  | unk=>exact absurd htd hn2
  | st n fs z=>exact absurd htd (hn1 n fs z)
  | one z =>
   rw [htd] at ht
   obtain ⟨d,zv,_,hu,hd,_⟩:=ht
   exact single d hu hd h
  | sl k =>
   rw [htd] at ht
   obtain ⟨e,_,hu,_⟩:=ht
   exact single _ hu rfl h
theorem dep_cells {d:Data} {i:Int} {off:Nat} {v:Value} (h:RelV X (.dep d i off) v) :
  ∃ g b,v=.pointer (some ⟨g,b+off,none⟩)∧∀ (j:Nat) (c:AV),(elemCells d.k (d.get i))[j]?=some c→∃ u,X.w.cell? ⟨g,b+j,none⟩=some u∧RelV X c u:=by
 cases h with
 | dep d i off g o h0 h1 hR h =>
  refine ⟨g,o+i.toNat * d.k.esz,rfl,fun j c hj=>?_⟩
  have hcd:(elemCD X.ety d.k (d.get i))[j]?=some (cellCD X.ety c):=by rw [elemCD_cells,List.getElem?_map,hj];rfl
  obtain ⟨u,hu,hr⟩:=h j _ hcd
  exact ⟨u,hu,rel_of_rep (elemCells_plain _ _ c (List.mem_of_getElem? hj)) hr⟩
theorem box_cells {G:Beg} (hw:WRel X G) {id off:Nat} {v:Value} {t:TypeId} {cs:List AV} (h:RelV X (.ptr id off) v) (hb:hgt X.hp id=.box t cs) :
  ∃ g arr t',v=.pointer (some ⟨g,0+off,none⟩)∧(X.ob id).v=.pointer (some ⟨g,0,none⟩)∧X.w.heap[g]?=some (.cells arr t' (0,0))∧arr.size=cs.length∧(∀ n,(X.ob id).F n↔n=g) ∧
   (∀ (j:Nat) (c:AV),cs[j]?=some c→∃ u,arr[j]?=some u∧X.w.cell? ⟨g,0+j,none⟩=some u∧RelV X c u)∧TagC cs t':=by
 cases h with
 | ptr id off v hid h =>
  obtain ⟨b,hob,hv⟩:=h
  have ho:=hw.ob id
  unfold ObjOk at ho
  rw [hb] at ho
  obtain ⟨b',t',arr,h1,h2,h3,h4,h5,h6⟩:=ho
  rw [hob] at h1
  cases h1
  refine ⟨b,arr,t',by rw [hv,Nat.zero_add],hob,h2,h3,h5,fun j c hj=>?_,h6⟩
  have hlt:j < arr.size:=by rw [h3];exact (List.getElem?_eq_some_iff.1 hj).1
  refine ⟨arr[j],Array.getElem?_eq_getElem hlt,?_,h4 j c _ hj (Array.getElem?_eq_getElem hlt)⟩
  rw [Nat.zero_add,cell_of_row X.w b j arr t' (0,0) h2]
  exact Array.getElem?_eq_getElem hlt
end
end Go.Ab
namespace Go.Ab
open Go
variable [GI]
section
variable {P:Program} {E:Env} {X:Ctx} {G:Beg} {o:Oper} {a:Act}
theorem row_val {G:Beg} (hw:WRel X G) {id:Nat} {v:Value} {o:Bool} {d:Data} (h:RelV X (.row id) v) (hb:hgt X.hp id=.row o d):v=(X.ob id).v∧d.k=(X.ob id).k∧OwnO X.w X.R o (dataCD X.ety d) v (X.ob id).F:=by
 cases h with
 | row id v hid h =>
  have hv:=h
  have ho:=hw.ob id
  unfold ObjOk at ho
  rw [hb] at ho
  rw [hv]
  exact ⟨rfl,ho⟩
theorem hol_val {G:Beg} (hw:WRel X G) {id:Nat} {v:Value} {i:Int} {cs:List AV} {d:Data} (h:RelV X (.row id) v) (hb:hgt X.hp id=.hol d i cs):v=(X.ob id).v∧d.k=(X.ob id).k∧HolO X d i cs v (X.ob id).F:=by
 cases h with
 | row id v hid h =>
  have hv:=h
  have ho:=hw.ob id
  unfold ObjOk at ho
  rw [hb] at ho
  rw [hv]
  exact ⟨rfl,ho⟩
theorem OwnO.own {w:World} {R:Nat→Prop} {o:Bool} {d:Data} {ety:K→TypeId} {v:Value} {F:Nat→Prop} (h:OwnO w R o (dataCD ety d) v F):∃ xs,ownR w (ety d.k) d.k.esz v d.l.length xs:=by
 unfold OwnO at h
 have e:(d.l.map (elemCD ety d.k)).length=d.l.length:=List.length_map ..
 split at h
 ·cases h with
  | sl e n els v xs fs F ho=>rw [List.length_map] at ho;exact ⟨xs,ho⟩
 ·obtain ⟨xs,ho,_⟩:=h
  rw [List.length_map] at ho
  exact ⟨xs,ho⟩
theorem own_shape {w:World} {e size v n xs} (h:ownR w e size v n xs):∃ A cap,v=.slice A n cap∧n≤cap∧(0 < n→∃ g,A=some ⟨g,0,none⟩):=by
 rcases h.2 with ⟨rfl,rfl⟩ | ⟨g,cap,cur,fz,rfl,_,_,hnc,_⟩
 ·exact ⟨none,0,rfl,Nat.le_refl _,fun h=>absurd h (Nat.lt_irrefl _)⟩
 ·exact ⟨some ⟨g,0,none⟩,cap,rfl,hnc,fun _=>⟨g,rfl⟩⟩
theorem dat_shape {d:Data} {v:Value} (h:RelV X (.dat d) v):∃ A cap,v=.slice A d.l.length cap∧d.l.length≤cap ∧
  (∀ i:Nat,i < d.l.length→∃ g off,A=some ⟨g,off,none⟩∧X.R g∧∀ (j:Nat) (cd:CD),(elemCD X.ety d.k (d.l.getD i d.k.dflt))[j]?=some cd→∃ u,X.w.cell? ⟨g,off+i * d.k.esz+j,none⟩=some u∧Rep X.w X.R cd u):=by
 cases h with
 | dat d v h =>
  unfold dataCD at h
  generalize hels:d.l.map (elemCD X.ety d.k)=els at h
  cases h with
  | sl e n els A cap us hcap hn hc hr =>
   have hlen:els.length=d.l.length:=by rw [← hels];exact List.length_map ..
   refine ⟨A,cap,by rw [hlen],by omega,fun i hi=>?_⟩
   have hrow:els[i]?=some (elemCD X.ety d.k (d.l.getD i d.k.dflt)):=by
    rw [← hels,List.getElem?_map,List.getD,List.getElem?_eq_getElem hi]
    rfl
   have h0:0 < (elemCD X.ety d.k (d.l.getD i d.k.dflt)).length:=by rw [elemCD_len];cases d.k<;>decide
   have hf0:=flatten_get hn hrow (List.getElem?_eq_getElem h0)
   obtain ⟨g,off,hA,hR,_⟩:=hc _ _ hf0
   refine ⟨g,off,hA,hR,fun j cd hj=>?_⟩
   have hf:=flatten_get hn hrow hj
   obtain ⟨g',off',hA',_,hu⟩:=hc _ _ hf
   rw [hA] at hA'
   cases hA'
   refine ⟨us (i * d.k.esz+j),?_,hr _ _ hf⟩
   rw [← hu,Nat.add_assoc]
theorem run_index_slice {P:Program} {t e:TypeId} {i:TypeInfo} {g off len cap:Nat} {k:IntKind} {n:Int} {w:World} (ht:P.underlying t=some (.slice e)) (hi:P.info? e=some i) (h0:0≤n) (h1:n < len) :
  (Instr.indexAt t (.slice (some ⟨g,off,none⟩) len cap) (.int k n)).run P w=.ok (.pointer (some ⟨g,off+n.toNat * i.size,none⟩)) w:=by
 simp [Instr.indexAt,run_underlying ht,asIntOf,h0,h1,run_sizeOf' hi,Addr.add_lit]
theorem sl_inv (hE:EnvOk P E) {t:TypeId} {k:K} (h:E.td t=.sl k):∃ e i,P.underlying t=some (.slice e)∧P.info? e=some i∧i.size=k.esz∧(k=.u8→P.underlying e=some (.int .u8)):=by
 have ht:=hE.td t
 rw [h] at ht
 obtain ⟨e,_,hu,hs,h8,_⟩:=ht
 obtain ⟨i,hi,hsz⟩:=info_of hs
 exact ⟨e,i,hu,hi,hsz,h8⟩
theorem one_inv (hE:EnvOk P E) {t:TypeId} {z:AV} (h:E.td t=.one z):∃ d,P.underlying t=some d∧convOk z d:=by
 have ht:=hE.td t
 rw [h] at ht
 obtain ⟨d,zv,_,hu,_,_,hc⟩:=ht
 exact ⟨d,hu,hc⟩
theorem str_size (l:Str):(⟨l.toArray⟩:ByteArray).size=l.length:=by simp [ByteArray.size]
theorem run_slice_str {t:TypeId} {l:Str} {w:World} (ht:P.underlying t=some .string) {lo hi:Option AV} {vlo vhi:Option Value} {x y:Int} (hb:obnd l.length lo hi=some (x,y))
  (hlo:∀ c,lo=some c→∃ v,vlo=some v∧RelV X c v) (hlo':lo=none→vlo=none) (hhi:∀ c,hi=some c→∃ v,vhi=some v∧RelV X c v) (hhi':hi=none→vhi=none) (h0:0≤x) (h1:x≤y) (h2:y≤(l.length:Nat)) :
  (Instr.sliceAt t (sv l) vlo vhi none).run P w=.ok (sv (cut l x y)) w:=by
 rw [run_sliceAt_string w t _ _ _ _ ht]
 have hext:∀ (p q:Nat),p≤q→(⟨l.toArray⟩:ByteArray).extract p q=⟨((l.take q).drop p).toArray⟩:=by
  intro p q hpq
  rw [Lib.extract_eq]
  congr 2
  show (l.drop p).take (q - p)=_
  rw [List.drop_take]
 have hb':∀ (p q:Nat),p≤q→q≤l.length→Sem.run P (Instr.slice t (sv l) vlo vhi none) w=(((Instr.sliceBounds false l.length l.length vlo vhi none).run P w).andThen fun b w=>.ok (.string ((⟨l.toArray⟩:ByteArray).extract b.1 b.2.1)) w):=by
  intro p q _ _
  simp [Instr.slice,run_underlying ht,str_size]
 rw [hb' 0 0 (Nat.le_refl _) (Nat.zero_le _)]
 unfold obnd at hb
 split at hb
 ·cases hb
  rw [hlo' rfl,hhi' rfl]
  simp [Instr.sliceBounds]
  rw [hext 0 l.length (Nat.zero_le _)]
  simp [cut]
 ·cases hb
  rename_i p
  obtain ⟨v,rfl,hv⟩:=hlo _ rfl
  cases hv.int_inv
  rw [hhi' rfl]
  have e:(x.toNat:Int)=x:=Int.toNat_of_nonneg h0
  simp [Instr.sliceBounds,run_sliceBound_if,h0,h1]
  rw [hext x.toNat l.length (by omega)]
  simp [cut]
 ·cases hb
  obtain ⟨v,rfl,hv⟩:=hhi _ rfl
  cases hv.int_inv
  rw [hlo' rfl]
  simp [Instr.sliceBounds,run_sliceBound_if,h1,h2]
  rw [hext 0 y.toNat (Nat.zero_le _)]
  simp [cut]
 ·cases hb
  obtain ⟨v,rfl,hv⟩:=hlo _ rfl
  cases hv.int_inv
  obtain ⟨v,rfl,hv⟩:=hhi _ rfl
  cases hv.int_inv
  have e:(y.toNat:Int)=y:=Int.toNat_of_nonneg (by omega)
  simp [Instr.sliceBounds,run_sliceBound_if,h0,h2,(by omega:0≤y),e,h1]
  rw [hext x.toNat y.toNat (by omega)]
  simp [cut]
 ·cases hb
theorem flatten_drop {α:Type} {n:Nat}:∀ {l:List (List α)} (x k:Nat),(∀ row∈l,row.length=n)→x≤l.length→(l.drop x).flatten[k]?=l.flatten[x * n+k]?
 | l,0,k,_,_=>by simp
 | [],x+1,k,_,h=>by simp at h
 | r :: l,x+1,k,hn,h=>by
  have hr:=hn r List.mem_cons_self
  simp only [List.drop_succ_cons,List.flatten_cons]
  rw [flatten_drop x k (fun z hz=>hn z (List.mem_cons_of_mem _ hz)) (by simpa using h),List.getElem?_append_right (by rw [hr,Nat.add_mul];omega)]
  congr 1
  rw [hr,Nat.add_mul]
  omega
theorem flatten_take {α:Type}:∀ {l:List (List α)} (y k:Nat) {c:α},(l.take y).flatten[k]?=some c→l.flatten[k]?=some c
 | l,0,k,c,h=>by simp at h
 | [],y+1,k,c,h=>by simp at h
 | r :: l,y+1,k,c,h=>by
  simp only [List.take_succ_cons,List.flatten_cons] at h ⊢
  by_cases hk:k < r.length
  ·rw [List.getElem?_append_left hk] at h ⊢
   exact h
  ·rw [List.getElem?_append_right (by omega)] at h ⊢
   exact flatten_take y _ h
theorem rep_cut {w:World} {R:Nat→Prop} {ety:K→TypeId} {d:Data} {A:Option Addr} {cap lo hi:Nat} (h:Rep w R (dataCD ety d) (.slice A d.l.length cap)) (h1:lo≤hi) (h2:hi≤d.l.length) :
  Rep w R (dataCD ety ⟨d.k,(d.l.take hi).drop lo⟩) (.slice (if cap=lo then A else A.map (·.add (lo * d.k.esz))) (hi - lo) (cap - lo)):=by
 unfold dataCD at h ⊢
 generalize hels:d.l.map (elemCD ety d.k)=els at h
 have hlen:els.length=d.l.length:=by rw [← hels];exact List.length_map ..
 rw [← hlen] at h
 cases h with
 | sl e n els A' cap' us hcap hn hc hr =>
  have hels':((d.l.take hi).drop lo).map (elemCD ety d.k)=(els.take hi).drop lo:=by rw [← hels,List.map_drop,List.map_take]
  have hl':((els.take hi).drop lo).length=hi - lo:=by simp;omega
  show Rep w R (.sl (ety d.k) d.k.esz (((d.l.take hi).drop lo).map (elemCD ety d.k))) _
  rw [hels']
  have hmem:∀ row∈(els.take hi).drop lo,row.length=d.k.esz:=fun row hr=>hn row (List.mem_of_mem_take (List.mem_of_mem_drop hr))
  have hget:∀ (k:Nat) (cd:CD),((els.take hi).drop lo).flatten[k]?=some cd→els.flatten[lo * d.k.esz+k]?=some cd:=by
   intro k cd hk
   rw [flatten_drop lo k (fun row hr=>hn row (List.mem_of_mem_take hr)) (by simp;omega)] at hk
   exact flatten_take hi _ hk
  have:=Rep.sl (w:=w) (R:=R) (ety d.k) d.k.esz ((els.take hi).drop lo) (if cap=lo then A else A.map (·.add (lo * d.k.esz))) (cap - lo) (fun k=>us (lo * d.k.esz+k)) (by rw [hl'];omega) hmem
   (fun k cd hk=>by
    obtain ⟨b,off,hA,hR,hu⟩:=hc _ _ (hget k cd hk)
    subst hA
    by_cases hcl:cap=lo
    ·have:(els.take hi).drop lo=[]:=List.eq_nil_of_length_eq_zero (by rw [hl'];omega)
     rw [this] at hk
     simp at hk
    ·rw [if_neg hcl]
     refine ⟨b,off+lo * d.k.esz,by simp [Addr.add_lit],hR,?_⟩
     rw [Nat.add_assoc]
     exact hu)
   (fun k cd hk=>hr _ _ (hget k cd hk))
  rw [hl'] at this
  exact this
theorem run_slice_sl {t e:TypeId} {i:TypeInfo} {w:World} {A:Option Addr} {len cap:Nat} (ht:P.underlying t=some (.slice e)) (hi:P.info? e=some i) {lo hiV:Option AV} {vlo vhi:Option Value} {x y:Int} (hb:obnd len lo hiV=some (x,y))
  (hlo:∀ c,lo=some c→∃ v,vlo=some v∧RelV X c v) (hlo':lo=none→vlo=none) (hhi:∀ c,hiV=some c→∃ v,vhi=some v∧RelV X c v) (hhi':hiV=none→vhi=none) (h0:0≤x) (h1:x≤y) (h2:y≤(len:Nat)) (hc:len≤cap) :
  (Instr.sliceAt t (.slice A len cap) vlo vhi none).run P w=.ok (.slice (if cap=x.toNat then A else A.map (·.add (x.toNat * i.size))) (y.toNat - x.toNat) (cap - x.toNat)) w:=by
 have hs:(Instr.sliceAt t (.slice A len cap) vlo vhi none).run P w=(((Instr.sliceBounds true len cap vlo vhi none).run P w).andThen fun b w=>.ok (.slice (if b.2.2=b.1 then A else A.map (·.add (b.1 * i.size))) (b.2.1 - b.1) (b.2.2 - b.1)) w):=by
  simp only [Instr.sliceAt,Sem.run_bind,run_underlying ht,Result.andThen_ok,Instr.slice]
  cases (Instr.sliceBounds true len cap vlo vhi none).run P w with
  | ok b w=>simp [run_sizeOf' hi]
  | halt h w=>rfl
 rw [hs]
 unfold obnd at hb
 split at hb
 ·cases hb
  rw [hlo' rfl,hhi' rfl]
  simp [Instr.sliceBounds]
 ·cases hb
  obtain ⟨v,rfl,hv⟩:=hlo _ rfl
  cases hv.int_inv
  rw [hhi' rfl]
  simp [Instr.sliceBounds,run_sliceBound_if,h0,h1]
 ·cases hb
  obtain ⟨v,rfl,hv⟩:=hhi _ rfl
  cases hv.int_inv
  rw [hlo' rfl]
  have:y≤(cap:Int):=by omega
  simp [Instr.sliceBounds,run_sliceBound_if,h1,this]
 ·cases hb
  obtain ⟨v,rfl,hv⟩:=hlo _ rfl
  cases hv.int_inv
  obtain ⟨v,rfl,hv⟩:=hhi _ rfl
  cases hv.int_inv
  have e:(y.toNat:Int)=y:=Int.toNat_of_nonneg (by omega)
  have h3:y≤(cap:Int):=by omega
  simp [Instr.sliceBounds,run_sliceBound_if,h0,h3,(by omega:0≤y),e,h1]
 ·cases hb
end
end Go.Ab
namespace Go.Ab
open Go
variable [GI]
section
variable {P:Program} {E:Env} {X:Ctx} {G:Beg} {o:Oper} {a:Act}
theorem map_rel {e:Operand→AV} {l:Array Operand} (h:∀ x∈l.toList,RelV X (e x) (a.eval x)):(l.toList.map e).length=(l.map a.eval).size∧∀ (j:Nat) (c:AV) (u:Value),(l.toList.map e)[j]?=some c→(l.map a.eval)[j]?=some u→RelV X c u:=by
 refine ⟨by simp,fun j c u hj hu=>?_⟩
 rw [List.getElem?_map] at hj
 rw [Array.getElem?_map] at hu
 cases hl:l.toList[j]? with
 | none=>rw [hl] at hj;cases hj
 | some x =>
  rw [hl] at hj
  have hl':l[j]?=some x:=by simpa using hl
  rw [hl'] at hu
  cases hj
  cases hu
  exact h x (List.mem_of_getElem? hl)
theorem opt_rel {e:Operand→AV} {x:Option Operand} (h:∀ y,x=some y→RelV X (e y) (a.eval y)):(∀ c,x.map e=some c→∃ v,x.map a.eval=some v∧RelV X c v)∧(x.map e=none→x.map a.eval=none):=by
 cases x with
 | none=>exact ⟨(fun c h=>by cases h),fun _=>rfl⟩
 | some y=>exact ⟨(fun c hc=>by cases hc;exact ⟨_,rfl,h y rfl⟩),(fun h=>by cases h)⟩
theorem bytes_of {w:World} {R:Nat→Prop} {ety:K→TypeId} {l:Str} {A:Option Addr} {cap:Nat} (h:Rep w R (dataCD ety ⟨.u8,l⟩) (.slice A l.length cap)) :
  ∀ (j:Nat) (hj:j < l.length),∃ g off,A=some ⟨g,off,none⟩∧w.cell? ⟨g,off+j,none⟩=some (.int .u8 (l[j].toNat:Int)):=by
 intro j hj
 have hl:((⟨.u8,l⟩:Data).l.map (elemCD ety .u8)).length=l.length:=List.length_map ..
 unfold dataCD at h
 generalize hels:(⟨.u8,l⟩:Data).l.map (elemCD ety .u8)=els at h hl
 have h':Rep w R (.sl (ety .u8) 1 els) (.slice A els.length cap):=by rw [hl];exact h
 cases h' with
 | sl e n els A' cap' us hcap hn hc hr =>
  have hrow:els[j]?=some [.sc (.int .u8 (l[j].toNat:Int))]:=by
   rw [← hels,List.getElem?_map]
   show Option.map _ (l[j]?)=_
   rw [List.getElem?_eq_getElem hj]
   rfl
  have hf:=flatten_get hn hrow (j:=0) rfl
  obtain ⟨g,off,hA,_,hu⟩:=hc _ _ hf
  refine ⟨g,off,hA,?_⟩
  have hv:=hr _ _ hf
  generalize us (j * 1+0)=u at hu hv
  cases hv
  simpa using hu
theorem conv_bytes {src dst e:TypeId} (hs:P.underlying src=some (.slice e)) (he:P.underlying e=some (.int .u8)) (hd:P.underlying dst=some .string) {R:Nat→Prop} {ety:K→TypeId} {l:Str} {v:Value} {w:World}
  (h:Rep w R (dataCD ety ⟨.u8,l⟩) v) (hv:∃ A cap,v=.slice A l.length cap):(convert src dst v).run P w=.ok (sv l) w:=by
 obtain ⟨A,cap,rfl⟩:=hv
 have hb:=bytes_of h
 cases l with
 | nil =>
  cases A with
  | none=>simp [convert,run_underlying hs,run_underlying hd,run_underlying he,Conv.bytesToString];rfl
  | some ad=>exact run_convert_bytes_back w src dst e ad cap [] hs he hd (fun j hj=>by simp at hj)
 | cons c r =>
  obtain ⟨g,off,rfl,_⟩:=hb 0 (by simp)
  refine run_convert_bytes_back w src dst e ⟨g,off,none⟩ cap (c :: r) hs he hd (fun j hj=>?_)
  obtain ⟨g',off',hA,hu⟩:=hb j hj
  cases hA
  rw [Addr.add_lit]
  exact hu
theorem row_rep {G:Beg} (hw:WRel X G) {id:Nat} {v:Value} {q:Bool} {d:Data} (h:RelV X (.row id) v) (hb:hgt X.hp id=.row q d) :
  ∃ A cap,v=.slice A d.l.length cap∧Rep X.w (fun b=>X.R b∨(X.ob id).F b) (dataCD X.ety d) v:=by
 obtain ⟨hv,_,ho⟩:=row_val hw h hb
 obtain ⟨xs,hx⟩:=ho.own
 obtain ⟨A,cap,e,_⟩:=own_shape hx
 refine ⟨A,cap,e,?_⟩
 unfold OwnO at ho
 split at ho
 ·exact ho.rep fun b hb=>.inr hb
 ·exact ho.rep (fun b hb=>.inr hb) (fun b hb=>.inl hb)
theorem hol_own {G:Beg} (hw:WRel X G) {id:Nat} {v:Value} {i:Int} {cs:List AV} {d:Data} (h:RelV X (.row id) v) (hb:hgt X.hp id=.hol d i cs):d.k=(X.ob id).k∧v=(X.ob id).v∧∃ xs,ownR X.w (X.ety d.k) d.k.esz v d.l.length xs:=by
 obtain ⟨hv,hk,_,_,_,us,fs,g1,_⟩:=hol_val hw h hb
 exact ⟨hk,hv,us,g1⟩
theorem len_sound (hE:EnvOk P E) {G:Beg} (hw:WRel X G) {t ty:TypeId} {x:AV} {vx:Value} {p:Option Prop} {v:AV} (hx:RelV X x vx) (h:lenV (E.td t) X.hp x=some (p,v)) :
  ∃ u,(Builtin.len_ #[t] ty #[vx]).run P X.w=.ok u X.w∧RelV X v u:=by
 unfold lenV at h
 split at h
 ·rename_i k d htd
  simp only [Option.some.injEq,Prod.mk.injEq] at h
  obtain ⟨rfl,rfl⟩:=h
  obtain ⟨e,i,hu,_⟩:=sl_inv hE htd
  obtain ⟨A,cap,rfl,_⟩:=dat_shape hx
  exact ⟨_,by simp [Builtin.len_,run_underlying hu,goInt],.int _ _⟩
 ·rename_i z l htd
  simp only [Option.some.injEq,Prod.mk.injEq] at h
  obtain ⟨rfl,rfl⟩:=h
  obtain ⟨d,hu,hc⟩:=one_inv hE htd
  cases hc
  cases hx.str_inv
  exact ⟨_,by simp [Builtin.len_,run_underlying hu,str_size,goInt],.int _ _⟩
 ·rename_i k htd
  simp only [Option.some.injEq,Prod.mk.injEq] at h
  obtain ⟨rfl,rfl⟩:=h
  obtain ⟨e,i,hu,_⟩:=sl_inv hE htd
  cases hx
  exact ⟨_,by simp [Builtin.len_,run_underlying hu,goInt],.int _ _⟩
 ·rename_i k id htd
  split at h
  ·rename_i q d hb
   simp only [Option.some.injEq,Prod.mk.injEq] at h
   obtain ⟨rfl,rfl⟩:=h
   obtain ⟨e,i,hu,_⟩:=sl_inv hE htd
   obtain ⟨A,cap,rfl,_⟩:=row_rep hw hx hb
   exact ⟨_,by simp [Builtin.len_,run_underlying hu,goInt],.int _ _⟩
  ·rename_i d j cs hb
   simp only [Option.some.injEq,Prod.mk.injEq] at h
   obtain ⟨rfl,rfl⟩:=h
   obtain ⟨e,i,hu,_⟩:=sl_inv hE htd
   obtain ⟨_,_,xs,hox⟩:=hol_own hw hx hb
   obtain ⟨A,cap,rfl,_⟩:=own_shape hox
   exact ⟨_,by simp [Builtin.len_,run_underlying hu,goInt],.int _ _⟩
  ·cases h
 ·cases h
theorem minmax_sound {mx:Bool} {l:List AV} {vs:Array Value} {v:AV} {ats:Array TypeId} {ty:TypeId} (hl:l.length=vs.size) (hr:∀ (j:Nat) (c:AV) (u:Value),l[j]?=some c→vs[j]?=some u→RelV X c u) (h:minmax mx l=some v) :
  ∃ u,((if mx then Builtin.max_ ats ty vs else Builtin.min_ ats ty vs)).run P X.w=.ok u X.w∧RelV X v u:=by
 obtain ⟨vl⟩:=vs
 unfold minmax at h
 split at h
 ·rename_i x y
  cases h
  match vl,hl with
  | [u1,u2],_ =>
   cases (hr 0 _ _ rfl rfl).int_inv
   cases (hr 1 _ _ rfl rfl).int_inv
   cases mx with
   | true =>
    refine ⟨.int .i64 (max x y),?_,.int _ _⟩
    simp [Builtin.max_,Builtin.max2]
    split<;>omega
   | false =>
    refine ⟨.int .i64 (min x y),?_,.int _ _⟩
    simp [Builtin.min_,Builtin.min2]
    split<;>omega
 ·rename_i x y z
  cases h
  match vl,hl with
  | [u1,u2,u3],_ =>
   cases (hr 0 _ _ rfl rfl).int_inv
   cases (hr 1 _ _ rfl rfl).int_inv
   cases (hr 2 _ _ rfl rfl).int_inv
   cases mx with
   | true =>
    refine ⟨.int .i64 (max (max x y) z),?_,.int _ _⟩
    simp [Builtin.max_,Builtin.max2]
    (repeat' split)<;>omega
   | false =>
    refine ⟨.int .i64 (min (min x y) z),?_,.int _ _⟩
    simp [Builtin.min_,Builtin.min2]
    (repeat' split)<;>omega
 ·cases h
end
end Go.Ab
namespace Go.Ab
open Go
variable [GI]
section
variable {P:Program} {E:Env} {X:Ctx} {G:Beg} {o:Oper} {a:Act}
theorem run_equal_bool {t:TypeId} {b1 b2:Bool} {w:World} (h:P.underlying t=some .bool):(Op.equal t (.bool b1) (.bool b2)).run P w=.ok (b1 == b2) w:=by
 have key:∀ d:Nat,(Op.equalIn (d+1) t (.bool b1) (.bool b2)).run P w=.ok (b1 == b2) w:=fun d=>by simp [Op.equalIn,run_underlying h]
 exact key 9999
theorem run_equal_nil {t e:TypeId} {n c:Nat} {A:Option Addr} {w:World} (h:P.underlying t=some (.slice e)):(Op.equal t (.slice A n c) (.slice none 0 0)).run P w=.ok A.isNone w:=by
 have key:∀ d:Nat,(Op.equalIn (d+1) t (.slice A n c) (.slice none 0 0)).run P w=.ok A.isNone w:=fun d=>by cases A<;>simp [Op.equalIn,run_underlying h]
 exact key 9999
theorem ptr_val {id off:Nat} {v:Value} (h:RelV X (.ptr id off) v) (_:isC X.hp (.ptr id off)=true):∃ g,v=.pointer (some ⟨g,off,none⟩)∧(X.ob id).v=.pointer (some ⟨g,0,none⟩):=by
 cases h with
 | ptr id off v hid h=>obtain ⟨b,h1,h2⟩:=h;exact ⟨b,h2,h1⟩
theorem elp_val {id off:Nat} {i:Int} {v:Value} (h:RelV X (.elp id i off) v) (_:isC X.hp (.elp id i off)=true):∃ g b,v=.pointer (some ⟨g,b+off,none⟩)∧∀ off',RelV X (.elp id i off') (.pointer (some ⟨g,b+off',none⟩)):=by
 cases h with
 | elp id i off v hid h =>
  obtain ⟨h0,g,n,cap,hv,h1,hx⟩:=h
  exact ⟨g,i.toNat * (X.ob id).k.esz,hx,fun off'=>.elp id i off' _ hid ⟨h0,g,n,cap,hv,h1,rfl⟩⟩
theorem hol_cells (hw:WRel X G) {id off:Nat} {i:Int} {v:Value} {cs:List AV} {d:Data} (h:RelV X (.elp id i off) v) (hb:hgt X.hp id=.hol d i cs) :
  ∃ g b,v=.pointer (some ⟨g,b+off,none⟩)∧b=i.toNat * d.k.esz∧(X.ob id).v.ownBlock=some g∧0≤i∧i < d.l.length∧∀ (j:Nat) (c:AV),cs[j]?=some c→∃ u,X.w.cell? ⟨g,b+j,none⟩=some u∧RelV X c u:=by
 cases h with
 | elp id i off v hid h =>
  obtain ⟨h0,g,n,cap,hv,h1,hx⟩:=h
  obtain ⟨_,hk,_,hlt,hcl,us,fs,g1,g2,g3,g4,g5,g6,g7⟩:=hol_val hw (RelV.row id (X.ob id).v hid rfl) hb
  refine ⟨g,i.toNat * d.k.esz,by rw [hx,hk],rfl,by rw [hv];rfl,h0,by omega,fun j c hj=>?_⟩
  have hjl:j < d.k.esz:=by rw [← hcl];exact (List.getElem?_eq_some_iff.1 hj).1
  have hul:us.length=d.l.length * d.k.esz:=g1.1
  have hrow:(i.toNat+1) * d.k.esz≤d.l.length * d.k.esz:=Nat.mul_le_mul_right _ hlt
  have hrow':(i.toNat+1) * d.k.esz=i.toNat * d.k.esz+d.k.esz:=by rw [Nat.add_mul,Nat.one_mul]
  have hju:i.toNat * d.k.esz+j < us.length:=by omega
  obtain ⟨g',cap'',e',_,hc⟩:=g1.cell (List.getElem?_eq_getElem hju)
  rw [hv] at e'
  have hg:g'=g:=by simp at e';exact e'.1.symm
  subst hg
  exact ⟨_,hc,(g3 j c _ hj (List.getElem?_eq_getElem hju)).1⟩
theorem zip_cells (hw:WRel X G) {id id2 off:Nat} {l:List Node} {p:List Int} {v:Value} {cs:List AV} (h:RelV X (.zlp id id2 off) v) (hb:hgt X.hp id=.zip l p id2 cs) :
  ∃ g b,v=.pointer (some ⟨g,b+off,none⟩)∧(X.ob id2).v=.pointer (some ⟨g,b,none⟩)∧(atP l p).isNone=false∧(X.ob id).F g∧∀ (j:Nat) (c:AV),cs[j]?=some c→∃ u,X.w.cell? ⟨g,b+j,none⟩=some u∧RelV X c u:=by
 cases h with
 | zlp id id2 off v hid hid2 h =>
  obtain ⟨g,b,h1,h2⟩:=h
  have ho:=hw.ob id
  unfold ObjOk at ho
  rw [hb] at ho
  obtain ⟨_,_,⟨hcl,_⟩,_,us,hul,hr,hn,hs⟩:=ho
  cases hp:(atP l p).isNone with
  | true=>have:=(hn hp).1;rw [h1] at this;cases this
  | false =>
   obtain ⟨g',b',arr,t,fz,a1,a2,a3,_,a4,a5,_⟩:=hs hp
   rw [h1] at a1
   cases a1
   refine ⟨g,b,h2,h1,rfl,a2,fun j c hj=>?_⟩
   have hjl:j < 6:=by rw [← hcl];exact (List.getElem?_eq_some_iff.1 hj).1
   have hju:j < us.length:=by omega
   refine ⟨us[j],?_,(hr j c _ hj (List.getElem?_eq_getElem hju)).1⟩
   rw [cell_of_row X.w g (b+j) arr t fz a3,← a5 j hjl]
   exact List.getElem?_eq_getElem hju
theorem run_equal_ptr {t e:TypeId} {A:Option Addr} {w:World} (h:P.underlying t=some (.pointer e)):(Op.equal t (.pointer A) (.pointer none)).run P w=.ok A.isNone w:=by
 have key:∀ d:Nat,(Op.equalIn (d+1) t (.pointer A) (.pointer none)).run P w=.ok A.isNone w:=fun d=>by cases A<;>simp [Op.equalIn,run_underlying h]
 exact key 9999
theorem isNil_val {c:AV} {v:Value} {b:Bool} (h:RelV X c v) (hb:isNilP c=some b):∃ A,v=.pointer A∧A.isNone=b:=by
 unfold isNilP at hb
 split at hb<;>cases hb
 ·cases h with
  | zp id id2 l p v hid hid2 h hn hs =>
   rename_i l' p'
   cases hp:(atP l' p').isNone with
   | true=>exact ⟨none,hn hp,rfl⟩
   | false=>obtain ⟨g,b,hv⟩:=hs hp;exact ⟨_,hv,rfl⟩
 ·cases h with
  | zlp id id2 off v hid hid2 h=>obtain ⟨g,b,_,hv⟩:=h;exact ⟨_,hv,rfl⟩
 ·cases h with
  | ptr id off v hid h=>obtain ⟨b,_,hv⟩:=h;exact ⟨_,hv,rfl⟩
 ·cases h with
  | elp id i off v hid h=>obtain ⟨_,g,n,cap,_,_,hv⟩:=h;exact ⟨_,hv,rfl⟩
 ·cases h with
  | val v=>exact ⟨none,rfl,rfl⟩
theorem elp_cells (hw:WRel X G) {id off:Nat} {i:Int} {v:Value} {o:Bool} {d:Data} (h:RelV X (.elp id i off) v) (hb:hgt X.hp id=.row o d) :
  ∃ g b,v=.pointer (some ⟨g,b+off,none⟩)∧b=i.toNat * d.k.esz∧(X.ob id).v.ownBlock=some g∧0≤i∧i < d.l.length∧∀ (j:Nat) (c:AV),((elemCells d.k (d.get i)).map (hideC o))[j]?=some c→∃ u,X.w.cell? ⟨g,b+j,none⟩=some u∧RelV X c u:=by
 cases h with
 | elp id i off v hid h =>
  obtain ⟨h0,g,n,cap,hv,h1,hx⟩:=h
  obtain ⟨_,hk,ho⟩:=row_val hw (RelV.row id (X.ob id).v hid rfl) hb
  obtain ⟨xs0,hox0⟩:=ho.own
  obtain ⟨A,cap',hsh,_⟩:=own_shape hox0
  rw [hv] at hsh
  cases hsh
  have hlt:i.toNat < d.l.length:=by omega
  have hget:d.get i=d.l[i.toNat]:=by simp [Data.get,List.getD,hlt]
  refine ⟨g,i.toNat * d.k.esz,by rw [hx,hk],rfl,by rw [hv];rfl,h0,h1,fun j c hj=>?_⟩
  rw [List.getElem?_map] at hj
  cases hcj:(elemCells d.k (d.get i))[j]? with
  | none=>rw [hcj] at hj;cases hj
  | some c0 =>
   rw [hcj] at hj
   cases hj
   have hcd:(elemCD X.ety d.k (d.get i))[j]?=some (cellCD X.ety c0):=by rw [elemCD_cells,List.getElem?_map,hcj];rfl
   have hrow:(d.l.map (elemCD X.ety d.k))[i.toNat]?=some (elemCD X.ety d.k (d.get i)):=by rw [List.getElem?_map,List.getElem?_eq_getElem hlt,hget];rfl
   have hn:∀ row∈d.l.map (elemCD X.ety d.k),row.length=d.k.esz:=by
    intro row hr
    obtain ⟨x,_,rfl⟩:=List.mem_map.1 hr
    exact elemCD_len X.ety d.k x
   have hfl:=flatten_get hn hrow hcd
   have hpl:=elemCells_plain d.k (d.get i) c0 (List.mem_of_getElem? hcj)
   have fin:∀ xs:List Value,ownR X.w (X.ety d.k) d.k.esz (X.ob id).v (d.l.map (elemCD X.ety d.k)).length xs→∃ u,xs[i.toNat * d.k.esz+j]?=some u∧X.w.cell? ⟨g,i.toNat * d.k.esz+j,none⟩=some u:=by
    intro xs hx
    have hlen:(d.l.map (elemCD X.ety d.k)).flatten.length=xs.length:=by rw [flatten_len hn,hx.1]
    have hk':i.toNat * d.k.esz+j < xs.length:=by rw [← hlen];exact (List.getElem?_eq_some_iff.1 hfl).1
    refine ⟨xs[i.toNat * d.k.esz+j],List.getElem?_eq_getElem hk',?_⟩
    obtain ⟨g',cap'',e',_,hc⟩:=hx.cell (List.getElem?_eq_getElem hk')
    rw [hv] at e'
    have hg:g'=g:=by simp at e';exact e'.1.symm
    subst hg
    exact hc
   unfold OwnO at ho
   cases o with
   | true =>
    have ho:Own X.w (dataCD X.ety d) (X.ob id).v (X.ob id).F:=ho
    unfold dataCD at ho
    generalize hvv:(X.ob id).v=vv at ho fin
    cases ho with
    | sl e n els v xs fs F ho hn' hr hb' hd hF =>
     obtain ⟨u,hu,hcell⟩:=fin xs ho
     refine ⟨u,hcell,?_⟩
     have hown:=hr _ _ u hfl hu
     cases c0 with
     | dat d'=>exact .any u
     | _ =>
      first
       | cases hpl;done
       | (cases hown;exact rel_of_rep hpl (.sc _))
   | false =>
    have ho:OwnS X.w X.R (dataCD X.ety d) (X.ob id).v (X.ob id).F:=ho
    obtain ⟨xs,ho,hn',hr,hF⟩:=ho
    obtain ⟨u,hu,hcell⟩:=fin xs ho
    refine ⟨u,hcell,?_⟩
    have:=rel_of_rep hpl (hr _ _ u hfl hu)
    cases c0<;>exact this
theorem notcall_sound (hE:EnvOk P E) (hety:X.ety=E.ety) (hw:WRel X G) {e:Operand→AV} (he:∀ x,x∈o.op.operands.toList→RelV X (e x) (a.eval x)) {p:Option Prop} {v:AV}
  (h:stepP E o e X.hp=some (p,v)) (hp:∀ q,p=some q→q) (hnc:∀ c,o.op≠.call c) (hnb:∀ t ps,o.op≠.build t ps) (hns:∀ t l ps,o.op≠.buildSlice t l ps):OpP P X G o a v:=by
 obtain ⟨dst,op,ty,pos,after,gd⟩:=o
 cases op with
 | move x =>
  simp only [stepP,Option.some.injEq,Prod.mk.injEq] at h
  obtain ⟨rfl,rfl⟩:=h
  exact .of hw rfl (he x (by simp [Op.operands]))
 | assign x =>
  simp only [stepP,Option.some.injEq,Prod.mk.injEq] at h
  obtain ⟨rfl,rfl⟩:=h
  exact .of hw rfl (he x (by simp [Op.operands]))
 | pick c x y =>
  obtain ⟨b,hb,hv⟩:=pick_sound (he c (by simp [Op.operands])) (he x (by simp [Op.operands])) (he y (by simp [Op.operands])) (show pickV (e c) (e x) (e y)=some (p,v) from h) hp
  refine .of hw (u:=if b then a.eval x else a.eval y) ?_ hv
  cases b<;>simp [execOp,hb,asBool]
 | load t x =>
  have hx:=he x (by simp [Op.operands])
  simp only [stepP] at h
  split at h
  ·rename_i d i off hex
   rw [hex] at hx
   obtain ⟨g,b,hv,hc⟩:=dep_cells hx
   cases hld:ldC (E.td t) (elemCells d.k (d.get i)) off with
   | none=>rw [hld] at h;cases h
   | some c =>
    rw [hld] at h
    cases h
    obtain ⟨u,hu,hr⟩:=ld_sound hE hld hc
    refine .of hw (u:=u) ?_ hr
    simp [execOp,Instr.loadAt,hv,Instr.sureAddr,hu]
  ·rename_i id off hex
   rw [hex] at hx
   split at h
   ·rename_i t0 cs hb
    obtain ⟨g,arr,t',hv,_,_,_,_,hc,_⟩:=box_cells hw hx hb
    cases hld:ldC (E.td t) cs off with
    | none=>rw [hld] at h;cases h
    | some c =>
     rw [hld] at h
     cases h
     obtain ⟨u,hu,hr⟩:=ld_sound hE hld (fun j c hj=>by obtain ⟨u,_,h2,h3⟩:=hc j c hj;exact ⟨u,h2,h3⟩)
     refine .of hw (u:=u) ?_ hr
     rw [Nat.zero_add] at hu hv
     simp [execOp,Instr.loadAt,hv,Instr.sureAddr,hu]
   ·cases h
  ·rename_i cs off hex
   rw [hex] at hx
   generalize hvx:a.eval x=vx at hx
   cases hx with
   | rbp cs off b us hR hc hr =>
    cases hld:ldC (E.td t) cs off with
    | none=>rw [hld] at h;cases h
    | some c =>
     rw [hld] at h
     cases h
     obtain ⟨u,hu,hr⟩:=ld_sound (X:=X) (g:=b) (b:=0) hE hld (fun j c hj=>⟨us j,by rw [Nat.zero_add];exact hc j c hj,hr j c hj⟩)
     refine .of hw (u:=u) ?_ hr
     rw [Nat.zero_add] at hu
     simp [execOp,Instr.loadAt,hvx,Instr.sureAddr,hu]
  ·rename_i id i off hex
   rw [hex] at hx
   split at h
   ·rename_i q d hb
    obtain ⟨g,b,hv,_,_,_,_,hc⟩:=elp_cells hw hx hb
    cases hld:ldC (E.td t) ((elemCells d.k (d.get i)).map (hideC q)) off with
    | none=>rw [hld] at h;cases h
    | some c =>
     rw [hld] at h
     cases h
     obtain ⟨u,hu,hr⟩:=ld_sound (X:=X) (g:=g) (b:=b) hE hld hc
     refine .of hw (u:=u) ?_ hr
     simp [execOp,Instr.loadAt,hv,Instr.sureAddr,hu]
   ·rename_i d j cs hb
    split at h
    ·rename_i hji
     subst hji
     obtain ⟨g,b,hv,_,_,_,_,hc⟩:=hol_cells hw hx hb
     cases hld:ldC (E.td t) cs off with
     | none=>rw [hld] at h;cases h
     | some c =>
      rw [hld] at h
      cases h
      obtain ⟨u,hu,hr⟩:=ld_sound (X:=X) (g:=g) (b:=b) hE hld hc
      refine .of hw (u:=u) ?_ hr
      simp [execOp,Instr.loadAt,hv,Instr.sureAddr,hu]
    ·cases h
   ·cases h
  ·rename_i id id2 off hex
   rw [hex] at hx
   split at h
   ·rename_i l p j cs hb
    split at h
    ·rename_i hji
     subst hji
     obtain ⟨g,b,hv,_,_,_,hc⟩:=zip_cells hw hx hb
     cases hld:ldC (E.td t) cs off with
     | none=>rw [hld] at h;cases h
     | some c =>
      rw [hld] at h
      cases h
      obtain ⟨u,hu,hr⟩:=ld_sound (X:=X) (g:=g) (b:=b) hE hld hc
      refine .of hw (u:=u) ?_ hr
      simp [execOp,Instr.loadAt,hv,Instr.sureAddr,hu]
    ·cases h
   ·cases h
  ·cases h
 | nilCheck x =>
  have hx:=he x (by simp [Op.operands])
  simp only [stepP] at h
  split at h
  ·rename_i id off hex
   rw [hex] at hx
   split at h
   ·rename_i ha
    cases h
    obtain ⟨g,hv,_⟩:=ptr_val hx ha
    refine .of hw (u:=a.eval x) ?_ hx
    simp [execOp,hv]
   ·cases h
  ·rename_i d i off hex
   cases h
   rw [hex] at hx
   obtain ⟨g,b,hv,_⟩:=dep_cells hx
   refine .of hw (u:=a.eval x) ?_ hx
   simp [execOp,hv]
  ·rename_i cs off hex
   cases h
   rw [hex] at hx
   generalize hvx:a.eval x=vx at hx
   cases hx with
   | rbp cs off b us hR hc hr =>
    refine .of hw ?_ (.rbp cs off b us hR hc hr)
    simp [execOp,hvx]
  ·rename_i id i off hex
   rw [hex] at hx
   split at h
   ·rename_i ha
    cases h
    obtain ⟨g,b,hv,_⟩:=elp_val hx ha
    refine .of hw (u:=a.eval x) ?_ hx
    simp [execOp,hv]
   ·cases h
  ·rename_i id id2 l q hex
   cases h
   rw [hex] at hx
   have hq:=hp _ rfl
   generalize hvx:a.eval x=vx at hx
   cases hx with
   | zp id id2 l p v hid hid2 h hn hs =>
    obtain ⟨g,b,hv⟩:=hs hq
    rw [hv] at h hvx
    refine .of hw (u:=a.eval x) ?_ (.zlp id id2 0 _ hid hid2 ⟨g,b,h.symm,by rw [hvx];rfl⟩)
    simp [execOp,hvx]
  ·rename_i id id2 off hex
   cases h
   rw [hex] at hx
   have hx0:=hx
   generalize hvx:a.eval x=vx at hx
   cases hx with
   | zlp id id2 off v hid hid2 h =>
    obtain ⟨g,b,h1,h2⟩:=h
    refine .of hw (u:=a.eval x) ?_ hx0
    simp [execOp,hvx,h2]
  ·cases h
 | binOp op t x y ty' =>
  have hx:=he x (by simp [Op.operands])
  have hy:=he y (by simp [Op.operands])
  simp only [stepP] at h
  unfold binX at h
  split at h
  ·rename_i htd hey
   rw [hey] at hy
   obtain ⟨d,hu,hc⟩:=one_inv hE htd
   obtain ⟨e',rfl⟩:=hc
   have hyv:a.eval y=.pointer none:=by
    generalize a.eval y=vy at hy
    cases hy;rfl
   split at h
   ·rename_i b hb
    obtain ⟨A,hxv,hA⟩:=isNil_val hx hb
    split at h
    ·cases h
     refine .of hw (u:=.bool b) ?_ (.bool _)
     simp [execOp,hxv,hyv,eqGuard,binOp,run_equal_ptr hu,hA]
    ·cases h
     refine .of hw (u:=.bool !b) ?_ (.bool _)
     simp [execOp,hxv,hyv,eqGuard,binOp,run_equal_ptr hu,hA]
    ·cases h
   ·cases h
  ·rename_i b htd hex hey
   rw [hex] at hx
   rw [hey] at hy
   obtain ⟨d,hu,hc⟩:=one_inv hE htd
   obtain ⟨m,rfl⟩:=hc
   have hu':P.underlying t=some (.interface (P.methodsAt t)):=by rw [hu];unfold Program.methodsAt;rw [hu]
   have hyv:a.eval y=.nilIface:=by
    generalize a.eval y=vy at hy
    cases hy;rfl
   have key:∀ w,(Op.equal t (a.eval x) .nilIface).run P w=.ok (!b) w:=fun w=>by
    generalize a.eval x=vx at hx
    cases hx with
    | err b v h0 h1 =>
     cases b with
     | false=>rw [h0 rfl];exact Go.run_equal_nil_nil w t hu'
     | true=>obtain ⟨t',x',rfl⟩:=h1 rfl;exact Go.run_equal_held_nil w t t' x' hu'
   split at h
   ·rename_i hk
    obtain ⟨cv,rfl⟩:∃ cv,y=.const cv:=by
     cases y<;>first | exact ⟨_,rfl⟩ | cases hk
    have hg:∀ o w,(eqGuard o t x (.const cv) (a.eval x) .nilIface).run P w=.ok () w:=fun o w=>by
     generalize a.eval x=vx
     unfold eqGuard
     cases o<;>cases vx<;>simp
    split at h
    ·cases h
     refine .of hw (u:=.bool (!b)) ?_ (.bool _)
     simp [execOp,hyv,hg,binOp,key]
    ·cases h
     refine .of hw (u:=.bool b) ?_ (.bool _)
     simp [execOp,hyv,hg,binOp,key]
    ·cases h
   ·cases h
  ·rename_i z b1 b2 htd hex hey
   rw [hex] at hx
   rw [hey] at hy
   obtain ⟨d,hu,hc⟩:=one_inv hE htd
   cases hc
   have hx':=hx.bool_inv
   have hy':=hy.bool_inv
   split at h
   ·cases h
    refine .of hw (u:=.bool (b1 == b2)) ?_ (.bool _)
    simp [execOp,hx',hy',eqGuard,binOp,run_equal_bool hu]
   ·cases h
    refine .of hw (u:=.bool (!(b1 == b2))) ?_ (.bool _)
    simp [execOp,hx',hy',eqGuard,binOp,run_equal_bool hu]
   ·cases h
  ·rename_i k htd hex hey
   rw [hex] at hx
   rw [hey] at hy
   obtain ⟨e',i,hu,_⟩:=sl_inv hE htd
   generalize hxv:a.eval x=vx at hx
   generalize hyv:a.eval y=vy at hy
   cases hx
   cases hy
   split at h
   ·cases h
    refine .of hw (u:=.bool true) ?_ (.bool _)
    simp [execOp,hxv,hyv,eqGuard,binOp,run_equal_nil hu]
   ·cases h
    refine .of hw (u:=.bool false) ?_ (.bool _)
    simp [execOp,hxv,hyv,eqGuard,binOp,run_equal_nil hu]
   ·cases h
  ·rename_i k d htd hex hey
   rw [hex] at hx
   rw [hey] at hy
   obtain ⟨e',i,hu,_⟩:=sl_inv hE htd
   generalize hyv:a.eval y=vy at hy
   cases hy
   obtain ⟨A,cap,hxv,_,hel⟩:=dat_shape hx
   have hq:∀ b:Bool,RelV X (bif d.l.isEmpty then .qb else .bool b) (.bool (if A.isNone then !b else b)):=fun b=>by
    cases hl:d.l with
    | nil=>exact .qb _
    | cons x r =>
     obtain ⟨g,off,hA,_⟩:=hel 0 (by rw [hl];simp)
     rw [hA]
     exact .bool b
   split at h
   ·cases h
    refine .of hw (u:=.bool A.isNone) ?_ ?_
    ·simp [execOp,hxv,hyv,eqGuard,binOp,run_equal_nil hu]
    ·have:=hq false
     cases hA:A.isNone<;>rw [hA] at this<;>exact this
   ·cases h
    refine .of hw (u:=.bool (!A.isNone)) ?_ ?_
    ·simp [execOp,hxv,hyv,eqGuard,binOp,run_equal_nil hu]
    ·have:=hq true
     cases hA:A.isNone<;>rw [hA] at this<;>exact this
   ·cases h
  ·rename_i k id htd hex hey
   rw [hex] at hx
   rw [hey] at hy
   obtain ⟨e',i,hu,_⟩:=sl_inv hE htd
   generalize hyv:a.eval y=vy at hy
   cases hy
   split at h
   ·rename_i q d hb
    obtain ⟨hv,hkk,ho⟩:=row_val hw hx hb
    obtain ⟨xs,hox⟩:=ho.own
    obtain ⟨A,cap,hxv,_,hsome⟩:=own_shape hox
    split at h
    ·cases h
     obtain ⟨g,rfl⟩:=hsome (by have:=hp _ rfl;omega)
     refine .of hw (u:=.bool false) ?_ (.bool _)
     simp [execOp,hxv,hyv,eqGuard,binOp,run_equal_nil hu]
    ·cases h
     obtain ⟨g,rfl⟩:=hsome (by have:=hp _ rfl;omega)
     refine .of hw (u:=.bool true) ?_ (.bool _)
     simp [execOp,hxv,hyv,eqGuard,binOp,run_equal_nil hu]
    ·cases h
   ·cases h
  ·rename_i n1 n2 zs a1 b1 c1 d1 htd hex hey
   rw [hex] at hx
   rw [hey] at hy
   generalize hxv:a.eval x=vx at hx
   generalize hyv:a.eval y=vy at hy
   have two:∀ {p q:Str} {v:Value},RelV X (.agg [.str p,.str q]) v→v=.agg #[sv p,sv q]:=by
    intro p q v h
    cases h with
    | agg cs vs hl h =>
     obtain ⟨l⟩:=vs
     match l,hl with
     | [u1,u2],_ =>
      have e1:=(h 0 _ u1 rfl rfl).str_inv
      have e2:=(h 1 _ u2 rfl rfl).str_inv
      rw [e1,e2]
   have ex:=two hx
   have ey:=two hy
   subst ex
   subst ey
   split at h
   ·rename_i hq
    rw [Bool.and_eq_true,Bool.not_eq_true'] at hq
    have hqt:=hE.eqt t hq.1
    rw [htd] at hqt
    obtain ⟨hg,heq⟩:=hqt.1 hq.2 a1 b1 c1 d1 X.w
    split at h
    ·cases h
     refine .of hw (u:=.bool (decide (a1=c1)&&decide (b1=d1))) ?_ (.bool _)
     simp only [execOp,hxv,hyv]
     simp [run_eqGuard_agg,hg,run_eql_struct,heq]
    ·cases h
     refine .of hw (u:=.bool (!(decide (a1=c1)&&decide (b1=d1)))) ?_ (.bool _)
     simp only [execOp,hxv,hyv]
     simp [run_eqGuard_agg,hg,run_neq_struct,heq]
    ·cases h
   ·cases h
  ·rename_i n1 n2 zs a1 b1 c1 d1 htd hex hey
   rw [hex] at hx
   rw [hey] at hy
   generalize hxv:a.eval x=vx at hx
   generalize hyv:a.eval y=vy at hy
   have two:∀ {p:Str} {q:Int} {v:Value},RelV X (.agg [.str p,.int .i64 q]) v→v=.agg #[sv p,.int .i64 q]:=by
    intro p q v h
    cases h with
    | agg cs vs hl h =>
     obtain ⟨l⟩:=vs
     match l,hl with
     | [u1,u2],_ =>
      have e1:=(h 0 _ u1 rfl rfl).str_inv
      have e2:=(h 1 _ u2 rfl rfl).int_inv
      rw [e1,e2]
   have ex:=two hx
   have ey:=two hy
   subst ex
   subst ey
   split at h
   ·rename_i hq
    rw [Bool.and_eq_true] at hq
    have hqt:=hE.eqt t hq.1
    rw [htd] at hqt
    obtain ⟨hg,heq⟩:=hqt.2 hq.2 a1 c1 b1 d1 X.w
    split at h
    ·cases h
     refine .of hw (u:=.bool (decide (a1=c1)&&decide (b1=d1))) ?_ (.bool _)
     simp only [execOp,hxv,hyv]
     simp [run_eqGuard_agg,hg,run_eql_struct,heq]
    ·cases h
     refine .of hw (u:=.bool (!(decide (a1=c1)&&decide (b1=d1)))) ?_ (.bool _)
     simp only [execOp,hxv,hyv]
     simp [run_eqGuard_agg,hg,run_neq_struct,heq]
    ·cases h
   ·cases h
  ·obtain ⟨u,h1,h2,h3⟩:=bin_sound (P:=P) hx hy h hp t x y X.w
   refine .of hw (u:=u) ?_ h3
   simp [execOp,h1,h2]
 | unOp op t x =>
  have hx:=he x (by simp [Op.operands])
  simp only [stepP] at h
  split at h
  ·rename_i b hex
   cases h
   rw [hex] at hx
   refine .of hw (u:=.bool (!b)) ?_ (.bool _)
   simp [execOp,hx.bool_inv,Op.unary]
  ·rename_i n hex
   cases h
   rw [hex] at hx
   refine .of hw (u:=.int .i64 (-n)) ?_ (.int _ _)
   have hq:i64ok (0 - n):=by have:=hp _ rfl;simpa using this
   simp [execOp,hx.int_inv,Op.unary,Op.intArith]
   have:=wrap_i64 hq
   simpa using this
  ·cases h
 | makeFunc fn first caps =>
  cases fn with
  | func f =>
   simp only [stepP,Option.some.injEq,Prod.mk.injEq] at h
   obtain ⟨rfl,rfl⟩:=h
   obtain ⟨l1,h1⟩:=map_rel (l:=first) (fun x hx=>he x (by simp [Op.operands];exact .inl (by simpa using hx)))
   obtain ⟨l2,h2⟩:=map_rel (l:=caps) (fun x hx=>he x (by simp [Op.operands];exact .inr (by simpa using hx)))
   exact .of hw (u:=.func (.func f) (first.map a.eval) (caps.map a.eval)) rfl (.fn f _ _ _ _ l1 l2 h1 h2)
  | _=>cases h
 | slice t x lo hi mx =>
  cases mx with
  | some m=>cases h
  | none =>
   have hx:=he x (by simp [Op.operands])
   obtain ⟨hlo,hlo'⟩:=opt_rel (X:=X) (a:=a) (e:=e) (x:=lo) (fun y hy=>he y (by subst hy;simp [Op.operands]))
   obtain ⟨hhi,hhi'⟩:=opt_rel (X:=X) (a:=a) (e:=e) (x:=hi) (fun y hy=>he y (by subst hy;simp [Op.operands]))
   simp only [stepP] at h
   split at h
   ·rename_i z l htd hex
    rw [hex] at hx
    obtain ⟨d,hu,hc⟩:=one_inv hE htd
    cases hc
    split at h
    ·rename_i x0 y0 hob
     cases h
     obtain ⟨h0,h1,h2⟩:=hp _ rfl
     have hr:=run_slice_str (P:=P) (X:=X) (w:=X.w) hu hob hlo hlo' hhi hhi' h0 h1 h2
     refine .of hw (u:=sv (cut l x0 y0)) ?_ (.str _)
     simp only [execOp,hx.str_inv,Option.map_none,Sem.run_bind,hr,Result.andThen_ok,Sem.run_pure]
    ·cases h
   ·rename_i k d htd hex
    rw [hex] at hx
    split at h
    ·rename_i hk
     subst hk
     obtain ⟨e',i,hu,hi',hsz,_⟩:=sl_inv hE htd
     split at h
     ·rename_i x0 y0 hob
      cases h
      obtain ⟨h0,h1,h2⟩:=hp _ rfl
      obtain ⟨A,cap,hv,hcap,_⟩:=dat_shape hx
      have hr:=run_slice_sl (P:=P) (X:=X) (w:=X.w) (A:=A) (len:=d.l.length) (cap:=cap) hu hi' hob hlo hlo' hhi hhi' h0 h1 h2 hcap
      generalize hvx:a.eval x=vx at hx hv
      subst hv
      cases hx with
      | dat d v hrep =>
       have hrep':=rep_cut (lo:=x0.toNat) (hi:=y0.toNat) hrep (by omega) (by omega)
       refine .of hw ?_ (.dat _ _ hrep')
       simp only [execOp,hvx,Option.map_none,Sem.run_bind,hr,Result.andThen_ok,Sem.run_pure,hsz]
     ·cases h
    ·cases h
   ·rename_i k id htd hex
    rw [hex] at hx
    split at h
    ·rename_i _ n hlx
     split at h
     ·rename_i q d hb
      split at h
      ·rename_i hk
       subst hk
       cases h
       obtain ⟨h0,h1⟩:=hp _ rfl
       obtain ⟨e',i,hu,hi',hsz,_⟩:=sl_inv hE htd
       obtain ⟨hv,hkk,ho⟩:=row_val hw hx hb
       obtain ⟨xs,hox⟩:=ho.own
       obtain ⟨A,cap,hxv,hcap,hsome⟩:=own_shape hox
       have hid:id < X.nx:=by cases hx;assumption
       have hr:=run_slice_sl (P:=P) (X:=X) (w:=X.w) (A:=A) (len:=d.l.length) (cap:=cap) hu hi' (lo:=some (.int .i64 n)) (hiV:=none) (x:=n) (y:=d.l.length) rfl (hlx ▸ hlo) (fun h=>by cases h) (fun c hc=>by cases hc) (fun _=>rfl) h0 h1 (Int.le_refl _) hcap
       refine .of hw (u:=.slice (if cap=n.toNat then A else A.map (·.add (n.toNat * i.size))) ((d.l.length:Int).toNat - n.toNat) (cap - n.toNat)) ?_ (.rsb id n _ hid h0 ⟨A,d.l.length,cap,by rw [← hv,hxv],h1,_,_,rfl,fun hlt=>?_⟩)
       ·simp only [execOp,hxv,Option.map_none,Sem.run_bind]
        erw [hr]
        simp only [Result.andThen_ok,Sem.run_pure]
       ·obtain ⟨g,rfl⟩:=hsome (by omega)
        refine ⟨g,rfl,?_⟩
        rw [if_neg (by omega),hsz,← hkk]
        simp [Addr.add_lit]
      ·cases h
     ·cases h
    ·cases h
   ·cases h
 | fieldAddr S x f =>
  have hx:=he x (by simp [Op.operands])
  simp only [stepP] at h
  split at h
  ·rename_i fo sz ag d i off hf hex
   cases h
   rw [hex] at hx
   obtain ⟨n,fs,hs,hfs⟩:=fieldOf_inv hE hf
   generalize hvx:a.eval x=vx at hx
   cases hx with
   | dep d i off g o' h0 h1 hR hd =>
    refine .of hw ?_ (.dep d i (off+fo) g o' h0 h1 hR hd)
    simp only [execOp,hvx,Sem.run_bind,run_fieldAt hs hfs,Result.andThen_ok,Sem.run_pure,Nat.add_assoc]
  ·rename_i fo sz ag cs off hf hex
   cases h
   rw [hex] at hx
   obtain ⟨n,fs,hs,hfs⟩:=fieldOf_inv hE hf
   generalize hvx:a.eval x=vx at hx
   cases hx with
   | rbp cs off b us hR hc hr =>
    refine .of hw ?_ (.rbp cs (off+fo) b us hR hc hr)
    simp only [execOp,hvx,Sem.run_bind,run_fieldAt hs hfs,Result.andThen_ok,Sem.run_pure]
  ·rename_i fo sz ag id off hf hex
   rw [hex] at hx
   split at h
   ·rename_i ha
    cases h
    obtain ⟨n,fs,hs,hfs⟩:=fieldOf_inv hE hf
    obtain ⟨g,hv,hob⟩:=ptr_val hx ha
    have hid:id < X.nx:=by cases hx;assumption
    refine .of hw ?_ (.ptr id (off+fo) (.pointer (some ⟨g,off+fo,none⟩)) hid ⟨g,hob,rfl⟩)
    simp only [execOp,hv,Sem.run_bind,run_fieldAt hs hfs,Result.andThen_ok,Sem.run_pure]
   ·cases h
  ·rename_i fo sz ag id i off hf hex
   rw [hex] at hx
   split at h
   ·rename_i ha
    cases h
    obtain ⟨n,fs,hs,hfs⟩:=fieldOf_inv hE hf
    obtain ⟨g,b,hv,hall⟩:=elp_val hx ha
    refine .of hw ?_ (hall (off+fo))
    simp only [execOp,hv,Sem.run_bind,run_fieldAt hs hfs,Result.andThen_ok,Sem.run_pure,Nat.add_assoc]
   ·cases h
  ·rename_i fo sz ag id id2 off hf hex
   cases h
   rw [hex] at hx
   obtain ⟨n,fs,hs,hfs⟩:=fieldOf_inv hE hf
   generalize hvx:a.eval x=vx at hx
   cases hx with
   | zlp id id2 off v hid hid2 h =>
    obtain ⟨g,b,h1,h2⟩:=h
    refine .of hw ?_ (.zlp id id2 (off+fo) (.pointer (some ⟨g,b+(off+fo),none⟩)) hid hid2 ⟨g,b,h1,rfl⟩)
    simp only [execOp,hvx,h2,Sem.run_bind,run_fieldAt hs hfs,Result.andThen_ok,Sem.run_pure,Nat.add_assoc]
  ·cases h
 | field S x f =>
  have hx:=he x (by simp [Op.operands])
  simp only [stepP] at h
  split at h
  ·rename_i fo sz ag cs hf hex
   rw [hex] at hx
   obtain ⟨n,fs,hs,hfs⟩:=fieldOf_inv hE hf
   obtain ⟨i,flds,hi,hn,hu,hfl⟩:=stShape_inv hs
   obtain ⟨fd,j,d,hl,ho,hj,hsz,hne,hd,hag⟩:=fieldS_get hfl hfs
   have hl':flds[f]?=some fd:=by simpa using hl
   generalize hvx:a.eval x=vx at hx
   cases hx with
   | agg cs vs hlen hc =>
    cases ag with
    | true =>
     simp only [if_true] at h
     cases h
     refine .of hw (u:=.agg (vs.extract fo (fo+sz))) ?_ (.agg _ _ ?_ ?_)
     ·simp [execOp,hvx,Instr.field,run_underlying hu,hl',asAgg,Go.part,run_isAgg hd,hag,run_sizeOf' hj,ho,hsz]
     ·simp;omega
     ·intro j c u hj' hu'
      rw [List.getElem?_take] at hj'
      split at hj'
      ·rename_i hjs
       rw [List.getElem?_drop] at hj'
       rw [Array.getElem?_extract] at hu'
       split at hu'
       ·exact hc _ _ _ hj' hu'
       ·cases hu'
      ·cases hj'
    | false =>
     simp only [Bool.false_eq_true,if_false] at h
     cases hcf:cs[fo]? with
     | none=>rw [hcf] at h;cases h
     | some c =>
      rw [hcf] at h
      cases h
      have hlt:fo < vs.size:=by rw [← hlen];exact (List.getElem?_eq_some_iff.1 hcf).1
      refine .of hw (u:=vs[fo]) ?_ (hc fo _ _ hcf (Array.getElem?_eq_getElem hlt))
      simp [execOp,hvx,Instr.field,run_underlying hu,hl',asAgg,Go.part,run_isAgg hd,hag,ho,Array.getElem?_eq_getElem hlt]
  ·cases h
 | indexAddr t x ix =>
  have hx:=he x (by simp [Op.operands])
  have hi:=he ix (by simp [Op.operands])
  simp only [stepP] at h
  split at h
  ·rename_i k d n htd hex hei
   rw [hex] at hx
   rw [hei] at hi
   split at h
   ·rename_i hk
    subst hk
    cases h
    obtain ⟨h0,h1⟩:=hp _ rfl
    obtain ⟨e',i,hu,hi',hsz,_⟩:=sl_inv hE htd
    obtain ⟨A,cap,hv,hcap,hel⟩:=dat_shape hx
    obtain ⟨g,off,hA,hR,hc⟩:=hel n.toNat (by omega)
    subst hA
    have hr:=run_index_slice (P:=P) (w:=X.w) (g:=g) (off:=off) (len:=d.l.length) (cap:=cap) (k:=.i64) (n:=n) hu hi' h0 h1
    refine .of hw ?_ (.dep d n 0 g off h0 h1 hR hc)
    simp only [execOp,hv,hi.int_inv,Sem.run_bind,hr,Result.andThen_ok,Sem.run_pure,hsz,Nat.add_zero]
   ·cases h
  ·rename_i k id n htd hex hei
   rw [hex] at hx
   rw [hei] at hi
   split at h
   ·rename_i q d hb
    split at h
    ·rename_i hk
     subst hk
     cases h
     obtain ⟨h0,h1⟩:=hp _ rfl
     obtain ⟨e',i,hu,hi',hsz,_⟩:=sl_inv hE htd
     obtain ⟨hv,hkk,ho⟩:=row_val hw hx hb
     obtain ⟨xs,hox⟩:=ho.own
     obtain ⟨A,cap,hxv,_,hsome⟩:=own_shape hox
     obtain ⟨g,rfl⟩:=hsome (by omega)
     have hr:=run_index_slice (P:=P) (w:=X.w) (g:=g) (off:=0) (len:=d.l.length) (cap:=cap) (k:=.i64) (n:=n) hu hi' h0 h1
     have hid:id < X.nx:=by cases hx;assumption
     refine .of hw ?_ (.elp id n 0 _ hid ?_) (u:=.pointer (some ⟨g,0+n.toNat * d.k.esz,none⟩))
     ·simp only [execOp,hxv,hi.int_inv,Sem.run_bind,hr,Result.andThen_ok,Sem.run_pure,hsz]
     ·exact ⟨h0,g,_,cap,by rw [← hv,hxv],h1,by rw [Nat.zero_add,Nat.add_zero,hkk]⟩
    ·cases h
   ·rename_i d j cs hb
    split at h
    ·rename_i hk
     subst hk
     cases h
     obtain ⟨h0,h1⟩:=hp _ rfl
     obtain ⟨e',i,hu,hi',hsz,_⟩:=sl_inv hE htd
     obtain ⟨hkk,hv,xs,hox⟩:=hol_own hw hx hb
     obtain ⟨A,cap,hxv,_,hsome⟩:=own_shape hox
     obtain ⟨g,rfl⟩:=hsome (by omega)
     have hr:=run_index_slice (P:=P) (w:=X.w) (g:=g) (off:=0) (len:=d.l.length) (cap:=cap) (k:=.i64) (n:=n) hu hi' h0 h1
     have hid:id < X.nx:=by cases hx;assumption
     refine .of hw ?_ (.elp id n 0 _ hid ?_) (u:=.pointer (some ⟨g,0+n.toNat * d.k.esz,none⟩))
     ·simp only [execOp,hxv,hi.int_inv,Sem.run_bind,hr,Result.andThen_ok,Sem.run_pure,hsz]
     ·exact ⟨h0,g,_,cap,by rw [← hv,hxv],h1,by rw [Nat.zero_add,Nat.add_zero,hkk]⟩
    ·cases h
   ·cases h
  ·cases h
 | index t x ix =>
  have hx:=he x (by simp [Op.operands])
  have hi:=he ix (by simp [Op.operands])
  simp only [stepP] at h
  split at h
  ·rename_i z l n htd hex hei
   rw [hex] at hx
   rw [hei] at hi
   cases h
   obtain ⟨h0,h1⟩:=hp _ rfl
   obtain ⟨d,hu,hc⟩:=one_inv hE htd
   cases hc
   have hlt:n.toNat < l.length:=by omega
   have hbt:byteAt l n=l[n.toNat]:=by simp [byteAt,List.getD,List.getElem?_eq_getElem hlt]
   refine .of hw (u:=.int .u8 ((byteAt l n).toNat:Nat)) ?_ (.u8 _)
   have hgb:(⟨l.toArray⟩:ByteArray)[n.toNat]?=some l[n.toNat]:=by
    rw [getElem?_pos _ _ (by rw [str_size];exact hlt)]
    rfl
   simp [execOp,hx.str_inv,hi.int_inv,Instr.index,run_underlying hu,asIntOf,h0,hgb,hbt]
  ·rename_i z l b htd hex hei
   rw [hex] at hx
   rw [hei] at hi
   cases h
   have hlt:=hp _ rfl
   obtain ⟨d,hu,hc⟩:=one_inv hE htd
   cases hc
   have hbt:byteAt l ((b.toNat:Nat):Int)=l[b.toNat]:=by simp [byteAt,List.getD,List.getElem?_eq_getElem hlt]
   refine .of hw (u:=.int .u8 ((byteAt l ((b.toNat:Nat):Int)).toNat:Nat)) ?_ (.u8 _)
   have hgb:(⟨l.toArray⟩:ByteArray)[b.toNat]?=some l[b.toNat]:=by
    rw [getElem?_pos _ _ (by rw [str_size];exact hlt)]
    rfl
   simp [execOp,hx.str_inv,hi.u8_inv,Instr.index,run_underlying hu,asIntOf,hgb,hbt]
  ·cases h
 | extract x ix =>
  have hx:=he x (by simp [Op.operands])
  simp only [stepP] at h
  split at h
  ·rename_i vs hex
   rw [hex] at hx
   cases hcf:vs[ix]? with
   | none=>rw [hcf] at h;cases h
   | some c =>
    rw [hcf] at h
    cases h
    generalize hvx:a.eval x=vx at hx
    cases hx with
    | tup cs vs' hlen hc =>
     have hlt:ix < vs'.size:=by rw [← hlen];exact (List.getElem?_eq_some_iff.1 hcf).1
     refine .of hw (u:=vs'[ix]) ?_ (hc ix _ _ hcf (Array.getElem?_eq_getElem hlt))
     simp [execOp,hvx,Instr.extract,Array.getElem?_eq_getElem hlt]
  ·cases h
 | convert src dst' x =>
  have hx:=he x (by simp [Op.operands])
  simp only [stepP] at h
  split at h
  ·rename_i z1 z2 l h1 h2 hex
   cases h
   rw [hex] at hx
   obtain ⟨d1,hu1,hc1⟩:=one_inv hE h1
   obtain ⟨d2,hu2,hc2⟩:=one_inv hE h2
   cases hc1;cases hc2
   refine .of hw (u:=sv l) ?_ (.str _)
   simp [execOp,hx.str_inv,convert,run_underlying hu1,run_underlying hu2]
  ·rename_i z2 l h1 h2 hex
   cases h
   rw [hex] at hx
   obtain ⟨e',i,hu,_,_,h8⟩:=sl_inv hE h1
   obtain ⟨d2,hu2,hc2⟩:=one_inv hE h2
   cases hc2
   obtain ⟨A,cap,hv,_,_⟩:=dat_shape hx
   generalize hvx:a.eval x=vx at hx hv
   cases hx with
   | dat d v hrep =>
    have hr:=conv_bytes (w:=X.w) hu (h8 rfl) hu2 hrep ⟨A,cap,hv⟩
    refine .of hw (u:=sv l) ?_ (.str _)
    simp only [execOp,hvx,Sem.run_bind,hr,Result.andThen_ok,Sem.run_pure]
  ·rename_i z2 id h1 h2 hex
   rw [hex] at hx
   split at h
   ·rename_i q l hb
    cases h
    obtain ⟨e',i,hu,_,_,h8⟩:=sl_inv hE h1
    obtain ⟨d2,hu2,hc2⟩:=one_inv hE h2
    cases hc2
    obtain ⟨A,cap,hv,hrep⟩:=row_rep hw hx hb
    have hr:=conv_bytes (w:=X.w) hu (h8 rfl) hu2 hrep ⟨A,cap,hv⟩
    refine .of hw (u:=sv l) ?_ (.str _)
    simp only [execOp,Sem.run_bind,hr,Result.andThen_ok,Sem.run_pure]
   ·cases h
  ·rename_i k1 z1 z2 n h1 h2 hex
   cases h
   rw [hex] at hx
   obtain ⟨d1,hu1,hc1⟩:=one_inv hE h1
   obtain ⟨d2,hu2,hc2⟩:=one_inv hE h2
   cases hc1;cases hc2
   have hq:=hp _ rfl
   refine .of hw ?_ (.int _ _)
   simp only [execOp,hx.int_inv,convert,run_underlying hu1,run_underlying hu2,Sem.run_bind,Result.andThen_ok,Sem.run_pure,Conv.intToInt,wrap_i64 hq]
  ·rename_i k1 z1 z2 n h1 h2 hex
   cases h
   rw [hex] at hx
   obtain ⟨d1,hu1,hc1⟩:=one_inv hE h1
   obtain ⟨d2,hu2,hc2⟩:=one_inv hE h2
   cases hc1;cases hc2
   have hlt:=n.toNat_lt
   refine .of hw ?_ (.int _ _)
   simp only [execOp,hx.u8_inv,convert,run_underlying hu1,run_underlying hu2,Sem.run_bind,Result.andThen_ok,Sem.run_pure,Conv.intToInt,wrap_i64 (n:=(n.toNat:Nat)) ⟨by omega,by omega⟩]
  ·rename_i k1 z1 z2 n h1 h2 hex
   cases h
   rw [hex] at hx
   obtain ⟨d1,hu1,hc1⟩:=one_inv hE h1
   obtain ⟨d2,hu2,hc2⟩:=one_inv hE h2
   cases hc1;cases hc2
   have hq:=hp _ rfl
   have e:((UInt8.ofNat n.toNat).toNat:Int)=n:=by
    rw [UInt8.toNat_ofNat']
    have h1:=hq.1
    have h2:=hq.2
    omega
   refine .of hw ?_ (.u8 _)
   simp only [execOp,hx.int_inv,convert,run_underlying hu1,run_underlying hu2,Sem.run_bind,Result.andThen_ok,Sem.run_pure,Conv.intToInt,wrap_u8 hq,e]
  ·rename_i k1 z1 z2 n h1 h2 hex
   cases h
   rw [hex] at hx
   obtain ⟨d1,hu1,hc1⟩:=one_inv hE h1
   obtain ⟨d2,hu2,hc2⟩:=one_inv hE h2
   cases hc1;cases hc2
   have hlt:=n.toNat_lt
   refine .of hw ?_ (.u8 _)
   simp only [execOp,hx.u8_inv,convert,run_underlying hu1,run_underlying hu2,Sem.run_bind,Result.andThen_ok,Sem.run_pure,Conv.intToInt,wrap_u8 (n:=(n.toNat:Nat)) ⟨by omega,by omega⟩]
  ·cases h
 | build t parts=>exact absurd rfl (hnb t parts)
 | buildSlice t l parts=>exact absurd rfl (hns t l parts)
 | call c=>exact absurd rfl (hnc c)
 | _=>cases h
end
end Go.Ab
