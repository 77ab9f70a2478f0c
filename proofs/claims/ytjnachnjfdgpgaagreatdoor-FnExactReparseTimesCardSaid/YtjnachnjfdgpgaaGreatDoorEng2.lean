import Derived.Test.YtjnachnjfdgpgaaGreatDoorEng1
import Derived.Deep.AppendSrc
import Derived.Laws.IdiomStrings
import Derived.Laws.MakeOwn
set_option linter.all false
namespace Go.Ab
open Go
variable [GI]
theorem setAt_get {cs vs:List AV} {off k:Nat} (h:off+vs.length≤cs.length):(setAt cs off vs)[k]?=if off≤k∧k < off+vs.length then vs[k - off]? else cs[k]?:=by
 have hl:(cs.take off).length=off:=by simp;omega
 unfold setAt
 by_cases h1:k < off
 ·rw [if_neg (by omega),List.append_assoc,List.getElem?_append_left (by omega),List.getElem?_take,if_pos h1]
 ·by_cases h2:k < off+vs.length
  ·rw [if_pos ⟨by omega,h2⟩,List.append_assoc,List.getElem?_append_right (by omega),hl,List.getElem?_append_left (by omega)]
  ·rw [if_neg (by omega),List.append_assoc,List.getElem?_append_right (by omega),hl,List.getElem?_append_right (by omega),List.getElem?_drop]
   congr 1
   omega
theorem setAt_len {cs vs:List AV} {off:Nat} (h:off+vs.length≤cs.length):(setAt cs off vs).length=cs.length:=by
 unfold setAt
 simp
 omega
theorem fold_set:∀ (vs:List Value) (arr:Array Value) (off j0:Nat),(((vs.zipIdx j0).foldl (fun (cs:Array Value) (x:Value × Nat)=>cs.setIfInBounds (off+x.2) x.1) arr).size=arr.size) ∧
  ∀ k,((vs.zipIdx j0).foldl (fun (cs:Array Value) (x:Value × Nat)=>cs.setIfInBounds (off+x.2) x.1) arr)[k]?=if off+j0≤k∧k < off+j0+vs.length∧k < arr.size then vs[k - (off+j0)]? else arr[k]?
 | [],arr,off,j0=>by
  refine ⟨rfl,fun k=>?_⟩
  rw [if_neg (by simp only [List.length_nil];omega)]
  rfl
 | v :: vs,arr,off,j0=>by
  simp only [List.zipIdx_cons,List.foldl_cons]
  have ⟨h1,h2⟩:=fold_set vs (arr.setIfInBounds (off+j0) v) off (j0+1)
  refine ⟨by rw [h1,Array.size_setIfInBounds],fun k=>?_⟩
  rw [h2 k,Array.size_setIfInBounds,Array.getElem?_setIfInBounds]
  simp only [List.length_cons]
  by_cases hk:off+j0=k
  ·rw [if_neg (by omega),if_pos hk]
   by_cases hs:k < arr.size
   ·rw [if_pos (by omega),if_pos ⟨by omega,by omega,hs⟩,show k - (off+j0)=0 by omega]
    rfl
   ·rw [if_neg (by omega),if_neg (by omega),Array.getElem?_eq_none (by omega)]
  ·by_cases hc:off+(j0+1)≤k∧k < off+(j0+1)+vs.length∧k < arr.size
   ·rw [if_pos hc,if_pos ⟨by omega,by omega,hc.2.2⟩]
    have:k - (off+j0)=(k - (off+(j0+1)))+1:=by omega
    rw [this]
    rfl
   ·rw [if_neg hc,if_neg hk,if_neg (by omega)]
section
variable {P:Program} {E:Env} {X:Ctx} {G:Beg} {o:Oper} {a:Act}
theorem isC_one (hw:WRel X G) {c:AV} {v:Value} (h:RelV X c v) (hc:isC X.hp c=true):v.oneCell'=true:=by
 cases h with
 | any v=>cases hc
 | int k n=>rfl
 | u8 b=>rfl
 | rbp cs off b us hR hc h=>rfl
 | bool b=>rfl
 | str l=>rfl
 | val v=>exact hc
 | nilS=>rfl
 | agg cs vs hl h=>cases hc
 | tup cs vs hl h=>cases hc
 | ptr id off v hid h =>
  obtain ⟨g,rfl,_⟩:=ptr_val (RelV.ptr id off v hid h) hc
  rfl
 | row id v hid h =>
  change (match hgt X.hp id with | .row ..=>true | .hol ..=>true | .zip ..=>true | _=>false)=true at hc
  split at hc
  ·rename_i q d hb
   obtain ⟨_,_,ho⟩:=row_val hw (RelV.row id v hid h) hb
   obtain ⟨xs,hox⟩:=ho.own
   obtain ⟨A,cap,rfl,_⟩:=own_shape hox
   rfl
  ·rename_i d i cs hb
   obtain ⟨_,_,xs,hox⟩:=hol_own hw (RelV.row id v hid h) hb
   obtain ⟨A,cap,rfl,_⟩:=own_shape hox
   rfl
  ·rename_i l p j cs hb
   have ho:=hw.ob id
   unfold ObjOk at ho
   rw [hb] at ho
   rw [h]
   exact ho.2.2.1.2
  ·cases hc
 | elp id i off v hid h =>
  obtain ⟨g,b,rfl,_⟩:=elp_val (RelV.elp id i off v hid h) hc
  rfl
 | dat d v h =>
  obtain ⟨A,cap,rfl,_⟩:=dat_shape (RelV.dat d v h)
  rfl
 | dep d i off g o h0 h1 hR h=>rfl
 | fn f fs cs fv cv hf hc h1 h2=>rfl
 | qb b=>cases hc
 | err b v h0 h1 =>
  cases b with
  | false=>rw [h0 rfl];rfl
  | true=>obtain ⟨t,x,rfl⟩:=h1 rfl;rfl
 | rsb id lo v hid h0 h=>cases hc
 | zp id id2 l p v hid hid2 h hn hs=>cases hc
 | zlp id id2 off v hid hid2 h=>cases hc
 | slf id T v hid h=>cases hc
 | slb T v=>cases hc
 | opt g x v h h0=>cases hc
theorem one_cells {v:Value} (h:v.oneCell'=true):v.cells=#[v]:=by cases v<;>first | rfl | cases h
theorem cells_rel (hw:WRel X G) {c:AV} {v:Value} (h:RelV X c v) (hc:(isAggV c || isC X.hp c)=true) :
  v.cells.size=(cellsOf c).length∧∀ (j:Nat) (x:AV) (u:Value),(cellsOf c)[j]?=some x→v.cells[j]?=some u→RelV X x u:=by
 cases hagg:isAggV c with
 | true =>
  cases c<;>first
   | cases hagg;done
   | (cases h with
      | agg cs vs hl h=>exact ⟨hl.symm,h⟩)
 | false =>
  rw [hagg,Bool.false_or] at hc
  rw [one_cells (isC_one hw h hc)]
  have:cellsOf c=[c]:=by cases c<;>first | rfl | cases hagg
  rw [this]
  refine ⟨rfl,fun j x u hx hu=>?_⟩
  cases j with
  | zero=>simp at hx hu;subst hx;subst hu;exact h
  | succ j=>simp at hx
theorem cv_rel {c:AV} {v:Value} (h:cv c=some v):RelV X c.zr v:=by
 cases c with
 | int k n =>
  simp [cv] at h
  subst h
  unfold AV.zr
  split
  ·rename_i hh
   cases hh
   split
   ·rename_i h0
    subst h0
    exact .u8 0
   ·exact .int _ _
  ·exact .int k n
 | bool b=>simp [cv] at h;subst h;exact .bool b
 | str l=>simp [cv] at h;subst h;exact .str l
 | nilS=>simp [cv] at h;subst h;exact .nilS
 | val v=>simp [cv] at h;subst h;exact .val _
 | _=>cases h
theorem cvs_rel:∀ {cs:List AV} {vs:List Value},cvs cs=some vs→cs.length=vs.length∧∀ (j:Nat) (c:AV) (u:Value),(cs.map AV.zr)[j]?=some c→vs[j]?=some u→RelV X c u
 | [],vs,h=>by simp [cvs] at h;subst h;exact ⟨rfl,fun j c u hj=>by simp at hj⟩
 | c :: cs,vs,h=>by
  unfold cvs at h
  split at h
  ·rename_i v vs' h1 h2
   cases h
   obtain ⟨hl,hr⟩:=cvs_rel h2
   refine ⟨by simp [hl],fun j c' u hj hu=>?_⟩
   cases j with
   | zero=>simp at hj hu;subst hj;subst hu;exact cv_rel h1
   | succ j=>exact hr j c' u (by simpa using hj) (by simpa using hu)
  ·cases h
theorem fill_sound (hw:WRel X G) {fields:List (Nat × Nat)} {fs:List (Nat × Nat × Bool)} (hf:∀ (i fo sz:Nat) (ag:Bool),fs[i]?=some (fo,sz,ag)→fields[i]?=some (fo,sz)) {e:Operand→AV} :
  ∀ (parts:List (Nat × Operand)) (cs:List AV) (arr:Array Value) (out:List AV),(∀ x∈parts,RelV X (e x.2) (a.eval x.2))→arr.size=cs.length→(∀ (j:Nat) (c:AV) (u:Value),cs[j]?=some c→arr[j]?=some u→RelV X c u) →
   buildC X.hp fs cs (parts.map fun p=>(p.1,e p.2))=some out →
   ∃ arr',Instr.fill (fields.toArray[·]?) arr (parts.map fun p=>(p.1,a.eval p.2))=some arr'∧arr'.size=out.length∧∀ (j:Nat) (c:AV) (u:Value),out[j]?=some c→arr'[j]?=some u→RelV X c u
 | [],cs,arr,out,_,hs,hr,h=>by
  simp [buildC] at h
  subst h
  exact ⟨arr,rfl,hs,hr⟩
 | (i,x) :: parts,cs,arr,out,he,hs,hr,h=>by
  simp only [List.map_cons] at h
  unfold buildC at h
  split at h
  ·rename_i fo sz ag hfi
   split at h
   ·rename_i hcond
    simp only [Bool.and_eq_true,decide_eq_true_eq] at hcond
    obtain ⟨⟨hc,hlen⟩,hle⟩:=hcond
    have hx:=he (i,x) List.mem_cons_self
    obtain ⟨hsz,hcr⟩:=cells_rel hw hx hc
    have hfl:=hf i fo sz ag hfi
    have ⟨g1,g2⟩:=fold_set (a.eval x).cells.toList arr fo 0
    have hfold:(a.eval x).cells.zipIdx.foldl (fun cs (x:Value × Nat)=>cs.setIfInBounds (fo+x.2) x.1) arr=((a.eval x).cells.toList.zipIdx 0).foldl (fun cs (x:Value × Nat)=>cs.setIfInBounds (fo+x.2) x.1) arr:=by
     rw [← Array.foldl_toList,Array.toList_zipIdx]
    have hle':fo+(cellsOf (e x)).length≤cs.length:=by omega
    obtain ⟨arr',h1,h2,h3⟩:=fill_sound hw hf parts (setAt cs fo (cellsOf (e x))) (((a.eval x).cells.toList.zipIdx 0).foldl (fun cs (x:Value × Nat)=>cs.setIfInBounds (fo+x.2) x.1) arr) out
     (fun y hy=>he y (List.mem_cons_of_mem _ hy)) (by rw [g1,setAt_len hle',hs]) (fun j c u hj hu=>by
      rw [setAt_get hle'] at hj
      rw [g2 j] at hu
      have hlen':(a.eval x).cells.toList.length=(cellsOf (e x)).length:=by simp [hsz]
      by_cases hin:fo≤j∧j < fo+(cellsOf (e x)).length
      ·rw [if_pos hin] at hj
       rw [if_pos ⟨by omega,by omega,by omega⟩] at hu
       exact hcr (j - fo) c u hj (by simpa using hu)
      ·rw [if_neg hin] at hj
       rw [if_neg (by omega)] at hu
       exact hr j c u hj hu) h
    refine ⟨arr',?_,h2,h3⟩
    simp only [List.map_cons]
    unfold Instr.fill
    have hfl':fields.toArray[i]?=some (fo,sz):=by simpa using hfl
    simp only [hfl']
    have hsz':(a.eval x).cells.size=sz:=by rw [hsz];exact hlen
    have hbd:fo+(a.eval x).cells.size≤arr.size:=by rw [hsz',hs];exact hle
    rw [if_neg (by simp only [Bool.or_eq_true,decide_eq_true_eq,ne_eq,not_or,Nat.not_lt,Decidable.not_not];exact ⟨hsz',by omega⟩)]
    rw [show (fun (cs:Array Value) (x:Value × Nat)=>match x with | (c,j)=>cs.setIfInBounds (fo+j) c)=(fun (cs:Array Value) (x:Value × Nat)=>cs.setIfInBounds (fo+x.2) x.1) from rfl,hfold]
    exact h1
   ·cases h
  ·cases h
theorem fieldS_places {P:Program}:∀ {l:List Field} {r:List (Nat × Nat × Bool)},fieldS P l=some r→∃ pl:List (Nat × Nat),l.mapM (fun f=>(P.info? f.type).map fun i=>(f.offset,i.size))=some pl∧∀ (i fo sz:Nat) (ag:Bool),r[i]?=some (fo,sz,ag)→pl[i]?=some (fo,sz)
 | [],r,h=>by simp [fieldS] at h;subst h;exact ⟨[],rfl,fun i fo sz ag h=>by simp at h⟩
 | f :: l,r,h=>by
  unfold fieldS at h
  split at h
  ·rename_i i d r' hi hu hr
   split at h
   ·cases h
   ·cases h
    obtain ⟨pl,h1,h2⟩:=fieldS_places hr
    refine ⟨(f.offset,i.size) :: pl,?_,fun j fo sz ag hj=>?_⟩
    ·simp [List.mapM_cons,hi,h1]
    ·cases j with
     | zero=>simp at hj;obtain ⟨rfl,rfl,_⟩:=hj;rfl
     | succ j=>exact h2 j fo sz ag (by simpa using hj)
  ·cases h
theorem build_sound (hE:EnvOk P E) (hw:WRel X G) {e:Operand→AV} {dst ty pos after gd t} {parts:Array (Nat × Operand)} (he:∀ x,x∈(Op.build t parts).operands.toList→RelV X (e x) (a.eval x)) {p:Option Prop} {v:AV}
  (h:stepP E ⟨dst,.build t parts,ty,pos,after,gd⟩ e X.hp=some (p,v)):OpP P X G ⟨dst,.build t parts,ty,pos,after,gd⟩ a v:=by
 simp only [stepP] at h
 split at h
 ·rename_i n fs z htd
  have ht:=hE.td t
  rw [htd] at ht
  obtain ⟨zs,hs,hz,hcv,_⟩:=ht
  obtain ⟨i,flds,hi,_,hu,hfl⟩:=stShape_inv hs
  obtain ⟨i',hi',hzz⟩:=info_of hz
  rw [hi] at hi'
  cases hi'
  obtain ⟨pl,hpl,hplf⟩:=fieldS_places hfl
  obtain ⟨hzl,hzr⟩:=cvs_rel (X:=X) hcv
  cases hb:buildC X.hp fs (z.map AV.zr) (parts.toList.map fun p=>(p.1,e p.2)) with
  | none=>rw [hb] at h;cases h
  | some cs =>
   rw [hb] at h
   cases h
   obtain ⟨arr',h1,h2,h3⟩:=fill_sound (a:=a) (e:=e) hw hplf parts.toList (z.map AV.zr) zs cs (fun x hx=>he x.2 (by simp only [Op.operands,List.toList_toArray];exact List.mem_map_of_mem hx)) (by rw [List.length_map];simpa using hzl.symm) (fun j c u hj hu=>hzr j c u hj (by simpa using hu)) hb
   have hbuilt:P.built t (parts.map fun p=>(p.1,a.eval p.2)).toList=some arr':=by
    unfold Program.built
    rw [hi,hu]
    simp only [hzz,hpl,Array.toList_map]
    exact h1
   refine .of hw (u:=.agg arr') ?_ (.agg cs arr' h2.symm h3)
   simp only [execOp]
   rw [show (parts.map fun x=>match x with | (i,x)=>(i,a.eval x))=(parts.map fun p=>(p.1,a.eval p.2)) from rfl]
   simp only [Sem.run_bind,run_build X.w t _ arr' hbuilt,Result.andThen_ok,Sem.run_pure]
 ·cases h
theorem fill_row {n:Nat}:∀ (l:List (Nat × Value)) (i:Nat) (arr:Array Value),(∀ p∈l,p.2.cells.size=n)→(∀ (j:Nat) (p:Nat × Value),l[j]?=some p→p.1=i+j)→(i+l.length) * n≤arr.size →
  ∃ arr',Instr.fill (fun i=>some (i * n,n)) arr l=some arr'∧arr'.size=arr.size∧∀ k:Nat,arr'[k]?=if i * n≤k∧k < (i+l.length) * n then (l.map (·.2.cells.toList)).flatten[k - i * n]? else arr[k]?
 | [],i,arr,_,_,_=>⟨arr,rfl,rfl,fun k=>by rw [if_neg (by simp only [List.length_nil,Nat.add_zero];omega)]⟩
 | (j0,v) :: l,i,arr,hn,hi,hl=>by
  have hv:=hn (j0,v) (by simp)
  have hj0:=hi 0 (j0,v) rfl
  simp only [Nat.add_zero] at hj0
  subst hj0
  have hmul:(j0+(l.length+1)) * n=j0 * n+n+l.length * n:=by rw [Nat.add_mul,Nat.add_mul];omega
  have hmul2:(j0+1) * n=j0 * n+n:=by rw [Nat.add_mul];omega
  have hmul3:(j0+1+l.length) * n=j0 * n+n+l.length * n:=by rw [Nat.add_mul,Nat.add_mul];omega
  simp only [List.length_cons] at hl
  rw [hmul] at hl
  have hv':v.cells.size=n:=hv
  obtain ⟨f1,f2⟩:=fold_set v.cells.toList arr (j0 * n) 0
  generalize hA:((v.cells.toList.zipIdx 0).foldl (fun (cs:Array Value) (x:Value × Nat)=>cs.setIfInBounds (j0 * n+x.2) x.1) arr)=arr1 at f1 f2
  have hA':v.cells.zipIdx.foldl (fun (cs:Array Value) (x:Value × Nat)=>cs.setIfInBounds (j0 * n+x.2) x.1) arr=arr1:=by rw [← hA,← Array.foldl_toList,Array.toList_zipIdx]
  obtain ⟨arr',g1,g2,g3⟩:=fill_row l (j0+1) arr1 (fun p hp=>hn p (List.mem_cons_of_mem _ hp)) (fun j p hj=>by rw [hi (j+1) p (by simpa using hj)];omega) (by rw [f1,hmul3];exact hl)
  refine ⟨arr',?_,by rw [g2,f1],fun k=>?_⟩
  ·simp only [Instr.fill]
   rw [if_neg (by rw [hv'];simp;omega)]
   rw [show (v.cells.zipIdx.foldl (fun cs x=>match x with | (c,j)=>cs.setIfInBounds (j0 * n+j) c) arr)=arr1 from hA']
   exact g1
  ·rw [g3 k,hmul3,hmul2]
   simp only [List.length_cons,List.map_cons,List.flatten_cons]
   rw [hmul]
   have hlen:v.cells.toList.length=n:=by rw [Array.length_toList];exact hv'
   by_cases h1:j0 * n+n≤k∧k < j0 * n+n+l.length * n
   ·rw [if_pos h1,if_pos (by omega),List.getElem?_append_right (by omega)]
    congr 1
    omega
   ·rw [if_neg h1,f2 k]
    by_cases h2:j0 * n≤k∧k < j0 * n+n
    ·rw [if_pos (show j0 * n+0≤k∧k < j0 * n+0+v.cells.toList.length∧k < arr.size by omega),if_pos (show j0 * n≤k∧k < j0 * n+n+l.length * n by omega),List.getElem?_append_left (by omega)]
     rfl
    ·rw [if_neg (show ¬ (j0 * n+0≤k∧k < j0 * n+0+v.cells.toList.length∧k < arr.size) by omega),if_neg (show ¬ (j0 * n≤k∧k < j0 * n+n+l.length * n) by omega)]
theorem run_zero {t:TypeId} {i:TypeInfo} {z:Value} (hi:P.info? t=some i) (hz:i.zero=some z) (w:World):(zeroValue t).run P w=.ok z w:=by
 simp [zeroValue,typeInfo,hi,hz]
end
end Go.Ab
namespace Go.Ab
open Go
variable [GI]
theorem asK_eq {d:Data} {k:K} {l:List k.den} (h:d.asK k=some l):d=⟨k,l⟩:=by
 obtain ⟨kd,ld⟩:=d
 cases kd<;>cases k<;>first | cases h;done | (cases h;rfl)
section
variable {P:Program} {E:Env} {X Y:Ctx} {G:Beg} {o:Oper} {a:Act}
theorem rep_nil (w:World) (R:Nat→Prop) (ety:K→TypeId) (k:K):Rep w R (dataCD ety ⟨k,[]⟩) (.slice none 0 0) :=
 .sl (ety k) k.esz [] none 0 (fun _=>undef) (Nat.le_refl _) (fun r h=>by simp at h) (fun k cd h=>by simp at h) (fun k cd h=>by simp at h)
theorem asL_rel {k:K} {c:AV} {v:Value} {l:List k.den} {q:Bool} (h:asL k c=some (l,q)) (hc:RelV Y c v):RelV Y (.dat ⟨k,l⟩) v:=by
 cases hc with
 | dat d v hr =>
  cases hd:d.asK k with
  | none=>simp [asL,hd] at h
  | some l' =>
   simp [asL,hd] at h
   obtain ⟨rfl,_⟩:=h
   have:=asK_eq hd
   subst this
   exact .dat _ v hr
 | nilS =>
  simp [asL] at h
  obtain ⟨rfl,_⟩:=h
  exact .dat _ _ (rep_nil _ _ _ k)
 | _=>simp [asL] at h
theorem elemMk_rel {k:K} {cs:List AV} {x:k.den} {q:Bool} (h:elemMk k cs=some (x,q)):cs.length=(elemCells k x).length ∧
  ∀ (j:Nat) (c c':AV) (u:Value),(elemCells k x)[j]?=some c→cs[j]?=some c'→RelV Y c' u→RelV Y c u:=by
 have key:∀ {cs ds:List AV},cs.length=ds.length→(∀ (j:Nat) (c c':AV) (u:Value),ds[j]?=some c→cs[j]?=some c'→RelV Y c' u→RelV Y c u)→∀ {c d:AV},(∀ u,RelV Y c u→RelV Y d u) →
   (c :: cs).length=(d :: ds).length∧∀ (j:Nat) (x x':AV) (u:Value),(d :: ds)[j]?=some x→(c :: cs)[j]?=some x'→RelV Y x' u→RelV Y x u:=by
  intro cs ds hl h c d hcd
  refine ⟨by simp [hl],fun j x x' u h1 h2 hr=>?_⟩
  cases j with
  | zero=>simp at h1 h2;subst h1;subst h2;exact hcd u hr
  | succ j=>exact h j x x' u (by simpa using h1) (by simpa using h2) hr
 have same:∀ (c:AV) (u:Value),RelV Y c u→RelV Y c u:=fun _ _ h=>h
 have nil:([]:List AV).length=([]:List AV).length∧∀ (j:Nat) (c c':AV) (u:Value),([]:List AV)[j]?=some c→([]:List AV)[j]?=some c'→RelV Y c' u→RelV Y c u:=⟨rfl,fun j c c' u h=>by simp at h⟩
 have cons:∀ {cs ds:List AV},(cs.length=ds.length∧∀ (j:Nat) (c c':AV) (u:Value),ds[j]?=some c→cs[j]?=some c'→RelV Y c' u→RelV Y c u)→∀ {c d:AV},(∀ u,RelV Y c u→RelV Y d u) →
   ((c :: cs).length=(d :: ds).length∧∀ (j:Nat) (x x':AV) (u:Value),(d :: ds)[j]?=some x→(c :: cs)[j]?=some x'→RelV Y x' u→RelV Y x u):=fun h _ _ hcd=>key h.1 h.2 hcd
 unfold elemMk at h
 split at h
 all_goals first
  | cases h;done
  | (cases h;exact cons nil (same _))
  | (cases h;exact cons (cons nil (same _)) (same _))
  | (split at h
     all_goals first
      | cases h;done
      | (rename_i h1
         cases h
         first
          | exact cons nil (fun _=>asL_rel h1)
          | exact cons (cons nil (fun _=>asL_rel h1)) (same _)
          | exact cons (cons (cons nil (fun _=>asL_rel h1)) (same _)) (same _)
          | exact cons (cons (cons (cons (cons (cons nil (same _)) (same _)) (fun _=>asL_rel h1)) (same _)) (same _)) (same _)
          | exact cons (cons (cons (cons (cons (cons (cons nil (same _)) (fun _=>asL_rel h1)) (same _)) (same _)) (same _)) (same _)) (same _))
      | (rename_i h1 h2
         cases h
         exact cons (cons (cons (cons (cons (cons nil (fun _=>asL_rel h2)) (fun _=>asL_rel h1)) (same _)) (same _)) (same _)) (same _))
      | (rename_i h1 h2 h3 h4 h5
         cases h
         exact cons (cons (cons (cons (cons (cons (cons (cons (cons nil (same _)) (same _)) (fun _=>asL_rel h5)) (fun _=>asL_rel h4)) (fun _=>asL_rel h3)) (fun _=>asL_rel h2)) (fun _=>asL_rel h1)) (same _)) (same _)))
theorem norm_rel {p:PS} {c:AV} {v:Value} (h:RelV Y c v):RelV Y (norm p c) v:=by
 cases p with
 | sc=>exact h
 | sl k =>
  show RelV Y (match asL k c with | some (l,_)=>.dat ⟨k,l⟩ | none=>c) v
  split
  ·rename_i l q hl
   exact asL_rel hl h
  ·exact h
 | st k =>
  cases h with
  | agg cs vs hl hr =>
   show RelV Y (match elemMk k cs with | some (x,_)=>.agg (elemCells k x) | none=>.agg cs) (.agg vs)
   split
   ·rename_i x q hm
    obtain ⟨h1,h2⟩:=elemMk_rel (Y:=Y) hm
    refine .agg _ vs (by rw [← h1,hl]) fun j c u hj hu=>?_
    have hlt:j < cs.length:=by rw [h1];exact (List.getElem?_eq_some_iff.1 hj).1
    exact h2 j c cs[j] u hj (List.getElem?_eq_getElem hlt) (hr j _ u (List.getElem?_eq_getElem hlt) hu)
   ·exact .agg cs vs hl hr
  | _=>exact (by first | exact h | (constructor<;>assumption))
theorem v0_rel (hw:WRel X G) {Rc:Nat→Prop} (hR:∀ b,X.R b→Rc b) {c:AV} {v:Value} (h:RelV X c v) (hF:noRef0 c=true∨∀ id b,live X id→(X.ob id).F b→Rc b):RelV (ctx0 X.ety X.w Rc) (v0 X.hp c) v:=by
 cases h with
 | int k n=>exact .int k n
 | u8 b=>exact .u8 b
 | bool b=>exact .bool b
 | str l=>exact .str l
 | val v=>exact .val v
 | nilS=>exact .nilS
 | dat d v h=>exact .dat d v (h.mono hR)
 | dep d i off g o h0 h1 hRg h=>exact .dep d i off g o h0 h1 (hR g hRg) fun j cd hj=>by obtain ⟨u,h1,h2⟩:=h j cd hj;exact ⟨u,h1,h2.mono hR⟩
 | row id v hid h =>
  rcases hF with hF | hF
  ·cases hF
  show RelV _ (match hgt X.hp id with | .row _ d=>.dat d | _=>.any) v
  split
  ·rename_i q d hb
   obtain ⟨A,cap,_,hr⟩:=row_rep hw (RelV.row id v hid h) hb
   refine .dat d v (hr.mono fun b hb'=>?_)
   rcases hb' with h | h
   ·exact hR b h
   ·exact hF id b (by unfold live;rw [hb];simp) h
  ·exact .any v
 | err b v h0 h1=>exact .err b v h0 h1
 | _=>exact .any _
theorem view1_rel (hw:WRel X G) {Rc:Nat→Prop} (hR:∀ b,X.R b→Rc b) {c:AV} {v:Value} (h:RelV X c v) (hF:noRef1 c=true∨∀ id b,live X id→(X.ob id).F b→Rc b):RelV (ctx0 X.ety X.w Rc) (view1 X.hp c) v:=by
 cases h with
 | ptr id off v hid h =>
  rcases hF with hF | hF
  ·cases hF
  show RelV _ (match hgt X.hp id with | .box _ cs=>.rbp (cs.map (v0 X.hp)) off | _=>.any) v
  split
  ·rename_i t cs hb
   obtain ⟨g,arr,t',hv,_,hg,_,hFb,hc,_⟩:=box_cells hw (RelV.ptr id off v hid h) hb
   subst hv
   rw [Nat.zero_add]
   refine .rbp _ off g (fun j=>arr.getD j undef) (hF id g (by unfold live;rw [hb];simp) ((hFb g).2 rfl)) (fun j c hj=>?_) (fun j c hj=>?_)
   ·rw [List.getElem?_map] at hj
    cases hcj:cs[j]? with
    | none=>rw [hcj] at hj;cases hj
    | some c0 =>
     obtain ⟨u,h1,h2,_⟩:=hc j c0 hcj
     rw [Nat.zero_add] at h2
     rw [show (ctx0 X.ety X.w Rc).w=X.w from rfl,h2]
     simp [Array.getD_eq_getD_getElem?,h1]
   ·rw [List.getElem?_map] at hj
    cases hcj:cs[j]? with
    | none=>rw [hcj] at hj;cases hj
    | some c0 =>
     obtain ⟨u,h1,_,h3⟩:=hc j c0 hcj
     rw [hcj] at hj
     cases hj
     have:arr.getD j undef=u:=by simp [Array.getD_eq_getD_getElem?,h1]
     rw [this]
     exact v0_rel hw hR h3 (.inr hF)
  ·exact .any v
 | rbp cs off b us hRb hc hr =>
  refine .rbp _ off b us (hR b hRb) (fun j c hj=>?_) (fun j c hj=>?_)
  ·rw [List.getElem?_map] at hj
   cases hcj:cs[j]? with
   | none=>rw [hcj] at hj;cases hj
   | some c0=>exact hc j c0 hcj
  ·rw [List.getElem?_map] at hj
   cases hcj:cs[j]? with
   | none=>rw [hcj] at hj;cases hj
   | some c0 =>
    rw [hcj] at hj
    cases hj
    refine v0_rel hw hR (hr j c0 hcj) (hF.imp (fun h=>?_) id)
    exact List.all_eq_true.1 h c0 (List.mem_of_getElem? hcj)
 | any v=>exact .any v
 | int k n=>exact .int k n
 | u8 b=>exact .u8 b
 | bool b=>exact .bool b
 | str l=>exact .str l
 | val v=>exact .val v
 | nilS=>exact .nilS
 | agg cs vs hl h=>exact .any _
 | tup cs vs hl h=>exact .any _
 | row id v hid h=>exact v0_rel hw hR (.row id v hid h) hF
 | elp id i off v hid h=>exact .any _
 | dat d v h=>exact v0_rel hw hR (.dat d v h) (.inl rfl)
 | dep d i off g o h0 h1 hRg h=>exact v0_rel hw hR (.dep d i off g o h0 h1 hRg h) (.inl rfl)
 | fn f fs cs fv cv hf hc h1 h2=>exact .any _
 | qb b=>exact .any _
 | err b v h0 h1=>exact .err b v h0 h1
 | rsb id lo v hid h0 h=>exact .any _
 | zp id id2 l p v hid hid2 h hn hs=>exact .any _
 | zlp id id2 off v hid hid2 h=>exact .any _
 | slf id T v hid h=>exact .any _
 | slb T v=>exact .any _
 | opt g x v h h0=>exact .any _
theorem view_rel (hw:WRel X G) {Rc:Nat→Prop} (hR:∀ b,X.R b→Rc b) {c:AV} {v:Value} (h:RelV X c v) (hF:noRef c=true∨∀ id b,live X id→(X.ob id).F b→Rc b):RelV (ctx0 X.ety X.w Rc) (view X.hp c) v:=by
 have lst:∀ (cs:List AV) (vs:Array Value),(∀ (j:Nat) (c:AV) (u:Value),cs[j]?=some c→vs[j]?=some u→RelV X c u)→(cs.all noRef1=true∨∀ id b,live X id→(X.ob id).F b→Rc b) →
   ∀ (j:Nat) (c:AV) (u:Value),(cs.map (view1 X.hp))[j]?=some c→vs[j]?=some u→RelV (ctx0 X.ety X.w Rc) c u:=by
  intro cs vs hr hF j c u hj hu
  rw [List.getElem?_map] at hj
  cases hcj:cs[j]? with
  | none=>rw [hcj] at hj;cases hj
  | some c0 =>
   rw [hcj] at hj
   cases hj
   exact view1_rel hw hR (hr j c0 u hcj hu) (hF.imp (fun h=>List.all_eq_true.1 h c0 (List.mem_of_getElem? hcj)) id)
 cases h with
 | agg cs vs hl h=>exact .agg _ vs (by simpa using hl) (lst cs vs h hF)
 | fn f fs cs fv cv hf hc h1 h2 =>
  refine .fn f _ _ fv cv (by simpa using hf) (by simpa using hc) (lst fs fv h1 (hF.imp (fun h=>?_) id)) (lst cs cv h2 (hF.imp (fun h=>?_) id))
  ·exact (Bool.and_eq_true _ _ ▸ h:_∧_).1
  ·exact (Bool.and_eq_true _ _ ▸ h:_∧_).2
 | any v=>exact .any v
 | int k n=>exact .int k n
 | u8 b=>exact .u8 b
 | bool b=>exact .bool b
 | str l=>exact .str l
 | val v=>exact .val v
 | nilS=>exact .nilS
 | tup cs vs hl h=>exact .any _
 | ptr id off v hid h=>exact view1_rel hw hR (.ptr id off v hid h) hF
 | row id v hid h=>exact view1_rel hw hR (.row id v hid h) hF
 | elp id i off v hid h=>exact .any _
 | dat d v h=>exact view1_rel hw hR (.dat d v h) (.inl rfl)
 | dep d i off g o h0 h1 hRg h=>exact view1_rel hw hR (.dep d i off g o h0 h1 hRg h) (.inl rfl)
 | rbp cs off b us hRb hc hr=>exact view1_rel hw hR (.rbp cs off b us hRb hc hr) hF
 | qb b=>exact .any _
 | err b v h0 h1=>exact .err b v h0 h1
 | rsb id lo v hid h0 h=>exact .any _
 | zp id id2 l p v hid hid2 h hn hs=>exact .any _
 | zlp id id2 off v hid hid2 h=>exact .any _
 | slf id T v hid h=>exact .any _
 | slb T v=>exact .any _
 | opt g x v h h0=>exact .any _
end
end Go.Ab
namespace Go.Ab
open Go
variable [GI]
section
variable {P:Program} {E:Env} {X:Ctx} {G:Beg} {o:Oper} {a:Act}
theorem grow_ext {w':World} {R':Nat→Prop} (hk:Keep (fun _=>False) X.w w') (hR:∀ b,X.R b→R' b):Ext X { X with w:=w',R:=R' } :=
 ⟨rfl,Nat.le_refl _,hR,fun b _ hs=>hk.block b hs id,fun _ _=>⟨rfl,rfl⟩⟩
theorem OwnO.keep {w w':World} {R:Nat→Prop} {o:Bool} {cd:CD} {v:Value} {F:Nat→Prop} (h:OwnO w R o cd v F) (hw:∀ b,F b→w'.heap[b]?=w.heap[b]?) (hR:∀ b,R b→b < w.heap.size→w'.heap[b]?=w.heap[b]?):OwnO w' R o cd v F:=by
 cases o with
 | true=>exact Own.keep h hw
 | false=>exact OwnS.keep h hw hR
theorem OwnO.mono {w:World} {R R':Nat→Prop} {o:Bool} {cd:CD} {v:Value} {F:Nat→Prop} (h:OwnO w R o cd v F) (hR:∀ b,R b→R' b):OwnO w R' o cd v F:=by
 cases o with
 | true=>exact h
 | false=>exact OwnS.mono h hR
theorem OwnO.lt {w:World} {R:Nat→Prop} {o:Bool} {cd:CD} {v:Value} {F:Nat→Prop} (h:OwnO w R o cd v F) (b:Nat) (hb:F b):b < w.heap.size:=by
 unfold OwnO at h
 split at h
 ·exact Own.lt h b hb
 ·exact OwnS.lt h b hb
theorem live_lt_heap (hw:WRel X G) {id b:Nat} (hl:live X id) (hb:(X.ob id).F b):b < X.w.heap.size:=by
 have h:=hw.ob id
 unfold ObjOk at h
 unfold live at hl
 split at h
 ·obtain ⟨g,t,arr,_,hg,_,_,hF,_⟩:=h
  cases (hF b).1 hb
  exact lt_of_heap hg
 ·exact h.2.lt b hb
 ·exact h.2.lt b hb
 ·exact h.2.2.2.1 b hb
 ·rename_i hd
  exact absurd hd hl
theorem grow_rel (hw:WRel X G) {w':World} {R':Nat→Prop} (hk:Keep (fun _=>False) X.w w') (hR:∀ b,X.R b→R' b) (hn:∀ b,R' b→X.R b∨X.w.heap.size≤b) (hl:∀ b,R' b→b < w'.heap.size):WRel { X with w:=w',R:=R' } G:=by
 have e:=grow_ext (X:=X) hk hR
 have hkF:Keep G.F0 X.w w':=hk.mono fun _ h=>h.elim
 refine ⟨fun id=>?_,hw.nxl,fun id id' b h1 h2=>hw.dj id id' b h1 h2,fun id b h1 h2 h3=>?_,hl,hw.kp.trans hkF,fun b hb=>hR b (hw.r0 b hb),fun b hb=>?_,hw.fn,GI.mono hw.gi hR fun b _ hs=>hk.block b hs fun h=>h⟩
 ·have h:=hw.ob id
  have hlv:∀ b,live X id→(X.ob id).F b→w'.heap[b]?=X.w.heap[b]?:=fun b h1 h2=>hk.block b (live_lt_heap hw h1 h2) (fun h=>h)
  unfold ObjOk at h ⊢
  show match hgt X.hp id with | _=>_
  cases hz:hgt X.hp id with
  | box t cs =>
   rw [hz] at h
   obtain ⟨g,t',arr,h1,h2,h3,h4,h5,h6⟩:=h
   exact ⟨g,t',arr,h1,by rw [show ({ X with w:=w',R:=R' }:Ctx).w=w' from rfl,hlv g (by unfold live;rw [hz];simp) ((h5 g).2 rfl)];exact h2,h3,fun j c u hj hu=>(h4 j c u hj hu).ext e,h5,h6⟩
  | row o d =>
   rw [hz] at h
   exact ⟨h.1,(OwnO.keep h.2 (fun b hb=>hlv b (by unfold live;rw [hz];simp) hb) (fun b _ hs=>hk.block b hs (fun h=>h))).mono hR⟩
  | hol d i cs =>
   rw [hz] at h
   exact ⟨h.1,h.2.ext e fun b hb=>hlv b (by unfold live;rw [hz];simp) hb⟩
  | zip l p id2 cs =>
   rw [hz] at h
   exact ⟨h.1,h.2.1,h.2.2.ext e fun b hb=>hlv b (by unfold live;rw [hz];simp) hb⟩
  | dead=>trivial
 ·rcases hn b h3 with h | h
  ·exact hw.dr id b h1 h2 h
  ·have:=live_lt_heap hw h1 h2
   omega
 ·rcases hn b hb with h | h
  ·exact hw.rn b h
  ·exact .inr (.inl (Nat.le_trans hw.kp.size h))
theorem run_call {dst ty pos after gd} {f:Operand} {args:Array Operand} {ats:Array TypeId} {g:FuncId} {fv cv:Array Value} {w:World} (hf:a.eval f=.func (.func g) fv cv) (hent:∀ as w,(callFunc g as).run P w=.ok (.enter g as) w) :
  (execOp a.eval ⟨dst,.call ⟨.value f,args,ats⟩,ty,pos,after,gd⟩).run P w=.ok (.enter g (fv++args.map a.eval++cv)) w:=by
 simp [execOp,resolve,Deferred.ofValue,invoke,hf,hent]
theorem append_rel {l1 l2 l3:List AV} {v1 v2 v3:Array Value} (h1:l1.length=v1.size) (h2:l2.length=v2.size) (h3:l3.length=v3.size)
  (r1:∀ (j:Nat) (c:AV) (u:Value),l1[j]?=some c→v1[j]?=some u→RelV X c u) (r2:∀ (j:Nat) (c:AV) (u:Value),l2[j]?=some c→v2[j]?=some u→RelV X c u) (r3:∀ (j:Nat) (c:AV) (u:Value),l3[j]?=some c→v3[j]?=some u→RelV X c u) :
  (l1++l2++l3).length=(v1++v2++v3).size∧∀ (j:Nat) (c:AV) (u:Value),(l1++l2++l3)[j]?=some c→(v1++v2++v3)[j]?=some u→RelV X c u:=by
 refine ⟨by simp [h1,h2,h3],fun j c u hj hu=>?_⟩
 rw [List.append_assoc] at hj
 rw [Array.append_assoc] at hu
 by_cases hj1:j < l1.length
 ·rw [List.getElem?_append_left hj1] at hj
  rw [Array.getElem?_append_left (by omega)] at hu
  exact r1 j c u hj hu
 ·rw [List.getElem?_append_right (by omega)] at hj
  rw [Array.getElem?_append_right (by omega)] at hu
  rw [← h1] at hu
  by_cases hj2:j - l1.length < l2.length
  ·rw [List.getElem?_append_left hj2] at hj
   rw [Array.getElem?_append_left (by omega)] at hu
   exact r2 _ c u hj hu
  ·rw [List.getElem?_append_right (by omega)] at hj
   rw [Array.getElem?_append_right (by omega)] at hu
   rw [← h2] at hu
   exact r3 _ c u hj hu
theorem fn_args {c:Operand→AV} {f:Operand} {args:Array Operand} {g:FuncId} {first caps:List AV} (hf:RelV X (.fn g first caps) (a.eval f)) (he:∀ x,x∈args.toList→RelV X (c x) (a.eval x)) :
  ∃ fv cv,a.eval f=.func (.func g) fv cv∧(first++args.toList.map c++caps).length=(fv++args.map a.eval++cv).size ∧
   ∀ (j:Nat) (x:AV) (u:Value),(first++args.toList.map c++caps)[j]?=some x→(fv++args.map a.eval++cv)[j]?=some u→RelV X x u:=by
 generalize hv:a.eval f=vf at hf
 cases hf with
 | fn f fs cs fv cv hl1 hl2 h1 h2 =>
  obtain ⟨ha,hr⟩:=map_rel (e:=c) (a:=a) he
  exact ⟨fv,cv,rfl,append_rel hl1 ha hl2 h1 hr h2⟩
theorem normAll_rel {Y:Ctx}:∀ {ps:List PS} {l:List AV} {vs:Array Value},(∀ (j:Nat) (c:AV) (u:Value),l[j]?=some c→vs[j]?=some u→RelV Y c u) →
  (normAll ps l).length=l.length∧∀ (j:Nat) (c:AV) (u:Value),(normAll ps l)[j]?=some c→vs[j]?=some u→RelV Y c u:=by
 intro ps l vs h
 have key:∀ (ps:List PS) (l:List AV),(normAll ps l).length=l.length∧∀ (j:Nat) (c:AV),(normAll ps l)[j]?=some c→∃ c0,l[j]?=some c0∧∀ u,RelV Y c0 u→RelV Y c u:=by
  intro ps
  induction ps with
  | nil=>exact fun l=>⟨by simp [normAll],fun j c hj=>⟨c,by simpa [normAll] using hj,fun _ h=>h⟩⟩
  | cons p ps ih =>
   intro l
   cases l with
   | nil=>exact ⟨by simp [normAll],fun j c hj=>by simp [normAll] at hj⟩
   | cons x l =>
    refine ⟨by simp [normAll,(ih l).1],fun j c hj=>?_⟩
    cases j with
    | zero =>
     simp [normAll] at hj
     exact ⟨x,by simp,fun u hu=>by rw [← hj];exact norm_rel hu⟩
    | succ j=>exact (ih l).2 j c (by simpa [normAll] using hj)
 refine ⟨(key ps l).1,fun j c u hj hu=>?_⟩
 obtain ⟨c0,h1,h2⟩:=(key ps l).2 j c hj
 exact h2 u (h j c0 u h1 hu)
theorem scR0_rel {Y Z:Ctx} {r:AV} {v:Value} {F:Nat→Prop} (h:RelA Y r v F) (hs:scR0 r=true):RelV Z r v:=by
 cases h with
 | pl c v F h hF =>
  cases h<;>first | (cases hs;done) | (constructor<;>assumption)
 | _=>cases hs
theorem plR0_rel {Y Z:Ctx} {r:AV} {v:Value} {F:Nat→Prop} (hety:Z.ety=Y.ety) (hw:Z.w=Y.w) (hR:∀ b,Y.R b→Z.R b) (h:RelA Y r v F) (hs:plR0 r=true):RelV Z r v:=by
 cases h with
 | pl c v F h hF =>
  cases h with
  | dat d v h=>exact .dat d v (by rw [hety,hw];exact h.mono hR)
  | _=>first | (cases hs;done) | (constructor<;>assumption)
 | _=>cases hs
theorem scR1_rel {Y Z:Ctx} {r:AV} {v:Value} {F:Nat→Prop} (h:RelA Y r v F) (hs:scR1 r=true):RelV Z r v:=by
 cases h with
 | agg cs vs fs F hl h hd hF=>exact .agg cs vs hl fun j c u hj hu=>scR0_rel (h j c u hj hu) (List.all_eq_true.1 hs c (List.mem_of_getElem? hj))
 | pl c v F h hF =>
  cases h with
  | agg cs vs hl h=>exact .agg cs vs hl fun j c u hj hu=>scR0_rel (.pl c u (fun _=>False) (h j c u hj hu) fun _ h=>h) (List.all_eq_true.1 hs c (List.mem_of_getElem? hj))
  | _=>first | (cases hs;done) | (constructor<;>assumption)
 | _=>cases hs
theorem plR1_rel {Y Z:Ctx} {r:AV} {v:Value} {F:Nat→Prop} (hety:Z.ety=Y.ety) (hw:Z.w=Y.w) (hR:∀ b,Y.R b→Z.R b) (h:RelA Y r v F) (hs:plR1 r=true):RelV Z r v:=by
 cases h with
 | agg cs vs fs F hl h hd hF=>exact .agg cs vs hl fun j c u hj hu=>plR0_rel hety hw hR (h j c u hj hu) (List.all_eq_true.1 hs c (List.mem_of_getElem? hj))
 | pl c v F h hF =>
  cases h with
  | agg cs vs hl h=>exact .agg cs vs hl fun j c u hj hu=>plR0_rel hety hw hR (.pl c u (fun _=>False) (h j c u hj hu) fun _ h=>h) (List.all_eq_true.1 hs c (List.mem_of_getElem? hj))
  | dat d v h=>exact .dat d v (by rw [hety,hw];exact h.mono hR)
  | _=>first | (cases hs;done) | (constructor<;>assumption)
 | _=>cases hs
theorem scR_rel {Y Z:Ctx} {r:AV} {v:Value} {F:Nat→Prop} (h:RelA Y r v F) (hs:scR r=true):RelV Z r v:=by
 cases h with
 | tup cs vs fs F hl h hd hF=>exact .tup cs vs hl fun j c u hj hu=>scR1_rel (h j c u hj hu) (List.all_eq_true.1 hs c (List.mem_of_getElem? hj))
 | agg cs vs fs F hl h hd hF=>exact scR1_rel (.agg cs vs fs F hl h hd hF) hs
 | pl c v F h hF =>
  cases h with
  | tup cs vs hl h=>exact .tup cs vs hl fun j c u hj hu=>scR1_rel (.pl c u (fun _=>False) (h j c u hj hu) fun _ h=>h) (List.all_eq_true.1 hs c (List.mem_of_getElem? hj))
  | agg cs vs hl h=>exact scR1_rel (.pl _ _ _ (.agg cs vs hl h) hF) hs
  | _=>first | (cases hs;done) | (constructor<;>assumption)
 | _=>cases hs
theorem plR_rel {Y Z:Ctx} {r:AV} {v:Value} {F:Nat→Prop} (hety:Z.ety=Y.ety) (hw:Z.w=Y.w) (hR:∀ b,Y.R b→Z.R b) (h:RelA Y r v F) (hs:plR r=true):RelV Z r v:=by
 cases h with
 | tup cs vs fs F hl h hd hF=>exact .tup cs vs hl fun j c u hj hu=>plR1_rel hety hw hR (h j c u hj hu) (List.all_eq_true.1 hs c (List.mem_of_getElem? hj))
 | agg cs vs fs F hl h hd hF=>exact plR1_rel hety hw hR (.agg cs vs fs F hl h hd hF) hs
 | pl c v F h hF =>
  cases h with
  | tup cs vs hl h=>exact .tup cs vs hl fun j c u hj hu=>plR1_rel hety hw hR (.pl c u (fun _=>False) (h j c u hj hu) fun _ h=>h) (List.all_eq_true.1 hs c (List.mem_of_getElem? hj))
  | agg cs vs hl h=>exact plR1_rel hety hw hR (.pl _ _ _ (.agg cs vs hl h) hF) hs
  | dat d v h=>exact .dat d v (by rw [hety,hw];exact h.mono hR)
  | _=>first | (cases hs;done) | (constructor<;>assumption)
 | _=>cases hs
theorem RelA.head {Y:Ctx} {r:AV} {rs:List AV} {v:Value} {vs:List Value} {F:Nat→Prop} (h:RelA Y (.agg (r :: rs)) (.agg (v :: vs).toArray) F):∃ F',RelA Y r v F'∧∀ b,F' b→F b:=by
 cases h with
 | pl c v F h hF =>
  cases h with
  | agg cs vs hl h=>exact ⟨fun _=>False,.pl _ _ _ (h 0 r v rfl (by simp)) (fun _ h=>h),fun _ h=>h.elim⟩
 | agg cs vs fs F hl h hd hF=>exact ⟨fs 0,h 0 r v rfl (by simp),fun b hb=>(hF b).2 ⟨0,by simp,hb⟩⟩
theorem call_sound (hE:EnvOk P E) (hety:X.ety=E.ety) (hw:WRel X G) {dst ty pos after gd} {f:Operand} {args:Array Operand} {ats:Array TypeId} {e:Operand→AV}
  (hf:RelV X (e f) (a.eval f)) (he:∀ x,x∈args.toList→RelV X (e x) (a.eval x)) {p:Option Prop} {v:AV}
  (h:stepP E ⟨dst,.call ⟨.value f,args,ats⟩,ty,pos,after,gd⟩ e X.hp=some (p,v)) (hp:∀ q,p=some q→q):OpP P X G ⟨dst,.call ⟨.value f,args,ats⟩,ty,pos,after,gd⟩ a v:=by
 simp only [stepP] at h
 split at h
 rotate_left
 ·cases h
 rename_i g first caps hfe
 rw [hfe] at hf
 split at h
 rotate_left
 ·cases h
 rename_i sp hcal
 split at h
 rotate_left
 ·cases h
 split at h
 rotate_left
 ·cases h
 rename_i hpure _ p' r outs hrun
 split at h
 rotate_left
 ·cases h
 rename_i hres
 simp only [Option.some.injEq,Prod.mk.injEq] at h
 obtain ⟨rfl,rfl⟩:=h
 obtain ⟨fv,cv,hfv,hlen,hrel⟩:=fn_args (c:=e) hf he
 generalize hL:first++args.toList.map e++caps=L at *
 generalize hV:fv++args.map a.eval++cv=V at *
 have hfn:=hE.cal g sp hcal
 intro K Q hK
 unfold Oper.wp
 rw [run_call hfv (hE.ent g sp hcal),Oper.upon_enter,hV]
 -- the blocks that the callee may read
 have main:∀ Rc:Nat→Prop,(∀ b,X.R b→Rc b)→(∀ b,Rc b→b < X.w.heap.size)→(L.all noRef=true∨∀ id b,live X id→(X.ob id).F b→Rc b) →
   Calls P g V X.w fun e w'=>∃ (u:Value) (R':Nat→Prop),e=.returned u∧(∀ b,Rc b→R' b)∧(∀ b,R' b→b < w'.heap.size)∧(∀ b,R' b→Rc b∨X.w.heap.size≤b)∧(∃ F',RelA (ctx0 X.ety w' R') r u F')∧Keep (fun _=>False) X.w w':=by
  intro Rc hRc hlt hF
  have hmap:∀ (j:Nat) (c:AV) (u:Value),(L.map (view X.hp))[j]?=some c→V[j]?=some u→RelV (ctx0 X.ety X.w Rc) c u:=by
   intro j c u hj hu
   rw [List.getElem?_map] at hj
   cases hcj:L[j]? with
   | none=>rw [hcj] at hj;cases hj
   | some c0 =>
    rw [hcj] at hj
    cases hj
    exact view_rel hw hRc (hrel j c0 u hcj hu) (hF.imp (fun h=>List.all_eq_true.1 h c0 (List.mem_of_getElem? hcj)) id)
  obtain ⟨hn1,hn2⟩:=normAll_rel (ps:=sp.ps) hmap
  have hargs:RelA (ctx0 X.ety X.w Rc) (.agg (normAll sp.ps (L.map (view X.hp)))) (.agg V) (fun _=>False) :=
   .pl _ _ _ (.agg _ _ (by rw [hn1,List.length_map,hlen]) hn2) (fun _ h=>h)
  have:=hfn _ _ _ _ hrun hp X.w Rc V (fun _=>False) (by rw [← hety];exact hargs) hlt (fun _ h=>h.elim) (fun _ h=>h.elim) (GI.mono hw.gi hRc fun _ _ _=>rfl)
  refine this.mono fun en w' hh=>?_
  obtain ⟨u,R',F',h1,h2,h3,h4,h5,h6,h7,h8⟩:=hh
  obtain ⟨F'',h9,_⟩:=h5.head
  exact ⟨u,R',h1,h2,h3,fun b hb=>(h4 b hb).imp_right fun h=>h.resolve_right id,⟨F'',by rw [hety];exact h9⟩,h8⟩
 rw [Bool.or_eq_true,Bool.and_eq_true] at hres
 rcases hres with hs | ⟨hpl,hno⟩
 ·refine (main (fun b=>X.R b∨∃ id,live X id∧(X.ob id).F b) (fun b h=>.inl h) (fun b h=>?_) (.inr fun id b h1 h2=>.inr ⟨id,h1,h2⟩)).mono fun en w' hh=>?_
  ·rcases h with h | ⟨id,h1,h2⟩
   ·exact hw.rl b h
   ·exact live_lt_heap hw h1 h2
  ·obtain ⟨u,R',rfl,h2,h3,h4,⟨F',h5⟩,h6⟩:=hh
   exact hK { X with w:=w' } u (grow_ext h6 fun _ h=>h) (grow_rel hw h6 (fun _ h=>h) (fun _ h=>.inl h) fun b hb=>Nat.lt_of_lt_of_le (hw.rl b hb) h6.size) rfl rfl (scR_rel h5 hs)
 ·refine (main X.R (fun _ h=>h) hw.rl (.inl hno)).mono fun en w' hh=>?_
  obtain ⟨u,R',rfl,h2,h3,h4,⟨F',h5⟩,h6⟩:=hh
  exact hK { X with w:=w',R:=R' } u (grow_ext h6 h2) (grow_rel hw h6 h2 h4 h3) rfl rfl (plR_rel (Y:=ctx0 X.ety w' R') rfl rfl (fun _ h=>h) h5 hpl)
theorem litE_rel {k:K} {c:AV} {y:k.den} {u:Value} (h:litE k c=some y) (hr:RelV X c u):u.cells.size=k.esz∧∀ (j:Nat) (cd:CD),(elemCD X.ety k y)[j]?=some cd→∃ z,u.cells[j]?=some z∧Rep X.w X.R cd z:=by
 have one:∀ {z:Value} {cd0:CD},u.cells=#[z]→k.esz=1→elemCD X.ety k y=[cd0]→Rep X.w X.R cd0 z→u.cells.size=k.esz∧∀ (j:Nat) (cd:CD),(elemCD X.ety k y)[j]?=some cd→∃ z,u.cells[j]?=some z∧Rep X.w X.R cd z:=fun h1 h2 h3 h4=>by
  rw [h1,h2,h3]
  refine ⟨rfl,fun j cd hj=>?_⟩
  match j,hj with
  | 0,hj=>cases hj;exact ⟨_,rfl,h4⟩
 unfold litE at h
 split at h
 ·cases h;cases hr;exact one rfl rfl rfl (.sc _)
 ·cases h;cases hr;exact one rfl rfl rfl (.sc _)
 ·cases h
  cases hr with
  | agg cs vs hl hc =>
   refine ⟨(show vs.size=2 from hl.symm),fun j cd hj=>?_⟩
   have hlt:j < 2:=(List.getElem?_eq_some_iff.1 hj).1
   obtain ⟨z,hz⟩:∃ z,vs[j]?=some z:=⟨_,Array.getElem?_eq_getElem (by rw [← hl];exact hlt)⟩
   refine ⟨z,hz,?_⟩
   match j,hj,hlt with
   | 0,hj,_=>cases hj;have:=hc 0 _ z rfl hz;cases this;exact .sc _
   | 1,hj,_=>cases hj;have:=hc 1 _ z rfl hz;cases this;exact .sc _
 ·cases h
  cases hr with
  | agg cs vs hl hc =>
   refine ⟨(show vs.size=3 from hl.symm),fun j cd hj=>?_⟩
   have hlt:j < 3:=(List.getElem?_eq_some_iff.1 hj).1
   obtain ⟨z,hz⟩:∃ z,vs[j]?=some z:=⟨_,Array.getElem?_eq_getElem (by rw [← hl];exact hlt)⟩
   refine ⟨z,hz,?_⟩
   match j,hj,hlt with
   | 0,hj,_=>cases hj;have:=hc 0 _ z rfl hz;cases this;exact .sc _
   | 1,hj,_=>cases hj;have:=hc 1 _ z rfl hz;cases this;exact .sc _
   | 2,hj,_=>cases hj;have:=hc 2 _ z rfl hz;cases this;assumption
 ·cases h
  cases hr with
  | agg cs vs hl hc =>
   refine ⟨(show vs.size=6 from hl.symm),fun j cd hj=>?_⟩
   have hlt:j < 6:=by have:=(List.getElem?_eq_some_iff.1 hj).1;rwa [elemCD_len] at this
   obtain ⟨z,hz⟩:∃ z,vs[j]?=some z:=⟨_,Array.getElem?_eq_getElem (by rw [← hl];exact hlt)⟩
   refine ⟨z,hz,?_⟩
   rw [show elemCD X.ety .node _=_ from nodeCD_eq X.ety _] at hj
   match j,hj,hlt with
   | 0,hj,_=>cases hj;have:=hc 0 _ z rfl hz;cases this;exact .sc _
   | 1,hj,_=>cases hj;have:=hc 1 _ z rfl hz;cases this;exact .sc _
   | 2,hj,_=>cases hj;have:=hc 2 _ z rfl hz;cases this;exact .sc _
   | 3,hj,_=>cases hj;have:=hc 3 _ z rfl hz;cases this;exact .sc _
   | 4,hj,_=>cases hj;have:=hc 4 _ z rfl hz;cases this;assumption
   | 5,hj,_=>cases hj;have:=hc 5 _ z rfl hz;cases this;assumption
 ·cases h
theorem lit_sound (hE:EnvOk P E) (hw:WRel X G) {dst ty pos after gd t len} {parts:Array (Nat × Operand)} {e:Operand→AV} (he:∀ x,x∈(Op.buildSlice t len parts).operands.toList→RelV X (e x) (a.eval x)) {p:Option Prop} {v:AV}
  (h:stepP E ⟨dst,.buildSlice t len parts,ty,pos,after,gd⟩ e X.hp=some (p,v)):OpP P X G ⟨dst,.buildSlice t len parts,ty,pos,after,gd⟩ a v:=by
 simp only [stepP] at h
 split at h
 rotate_left
 ·cases h
 split at h
 rotate_left
 ·cases h
 rename_i k htd
 unfold litS at h
 split at h
 rotate_left
 ·cases h
 rename_i c hparts
 obtain ⟨x,rfl,hx⟩:∃ x,parts=#[(0,x)]∧e x=c:=by
  match hl:parts.toList with
  | [(j,x)] =>
   rw [hl] at hparts
   simp at hparts
   exact ⟨x,by rw [← Array.toList_inj,hl,hparts.1],hparts.2⟩
  | []=>rw [hl] at hparts;simp at hparts
  | _ :: _ :: _=>rw [hl] at hparts;simp at hparts
 cases hy:litE k c with
 | none=>rw [hy] at h;cases h
 | some y =>
 rw [hy] at h
 cases h
 have hrel:=he x (by simp [Op.operands])
 rw [hx] at hrel
 obtain ⟨hsz1,hcell⟩:=litE_rel hy hrel
 have ht:=hE.td t
 rw [htd] at ht
 obtain ⟨e',_,hu,hsz,_,zv,bb,hzb,_,_,hcv⟩:=ht
 obtain ⟨i,hi,hsz⟩:=info_of hsz
 obtain ⟨i',hi',hzb⟩:=info_of hzb
 rw [hi] at hi'
 cases hi'
 have hz:i.zero=some zv:=by simpa using (Prod.mk.inj hzb).1
 have hesz:k.esz≤9:=by cases k<;>decide
 have hesz0:0 < k.esz:=by cases k<;>decide
 have hrun:∃ arr:Array Value,(Instr.buildSlice t 1 #[(0,a.eval x)]).run P X.w=.ok (.slice (some ⟨X.w.heap.size,0,none⟩) 1 1) (X.w.alloc (.cells arr e'))∧∀ j,j < k.esz→arr[j]?=(a.eval x).cells[j]?:=by
  obtain ⟨arr',f1,f2,f3⟩:=fill_row (n:=k.esz) [(0,a.eval x)] 0 ((Array.range (1 * k.esz)).map (zv.cells[· % zv.cells.size]!)) (fun p hp=>by simp at hp;rw [hp];exact hsz1) (fun j p hj=>by
    match j,hj with
    | 0,hj=>cases hj;rfl) (by simp)
  refine ⟨arr',?_,fun j hj=>?_⟩
  ·simp only [Instr.buildSlice,Sem.run_bind,run_underlying hu,Result.andThen_ok,run_sizeOf' hi,hsz]
   simp only [show (2 ^ 24:Nat)=16777216 by rfl,gt_iff_lt]
   rw [if_neg (by omega),if_neg (by omega)]
   simp only [Sem.run_bind,run_zero hi hz,Sem.run_pure,Result.andThen_ok,f1,newRow]
   simp
  ·rw [f3 j,if_pos (by simp;omega)]
   simp
 obtain ⟨arr,r1,r2⟩:=hrun
 intro K Q hK
 have hex:(execOp a.eval ⟨dst,.buildSlice t 1 #[(0,x)],ty,pos,after,gd⟩).run P X.w=.ok (.value (.slice (some ⟨X.w.heap.size,0,none⟩) 1 1)) (X.w.alloc (.cells arr e')):=by
  simp only [execOp]
  rw [show ((#[(0,x)]:Array (Nat × Operand)).map fun x=>match x with | (i,x)=>(i,a.eval x))=#[(0,a.eval x)] by simp]
  simp only [Sem.run_bind,r1,Result.andThen_ok,Sem.run_pure]
 have hkp:Keep (fun _=>False) X.w (X.w.alloc (.cells arr e')):=by
  refine ⟨rfl,rfl,rfl,?_,fun b hb _=>?_⟩
  ·show X.w.heap.size≤(X.w.heap.push _).size
   simp
  ·show (X.w.heap.push _)[b]?=_
   rw [Array.getElem?_push_lt hb]
   simp
 have hnew:(X.w.alloc (.cells arr e')).heap[X.w.heap.size]?=some (.cells arr e' (0,0)):=by
  show (X.w.heap.push _)[X.w.heap.size]?=_
  simp
 have e1:=grow_ext (X:=X) (R':=fun b=>X.R b∨b=X.w.heap.size) hkp (fun _ h=>.inl h)
 have w1:=grow_rel hw (R':=fun b=>X.R b∨b=X.w.heap.size) hkp (fun _ h=>.inl h) (fun b h=>h.imp id fun h=>by omega) (fun b h=>by
  have:(X.w.alloc (.cells arr e')).heap.size=X.w.heap.size+1:=by show (X.w.heap.push _).size=_;simp
  rcases h with h | h
  ·have:=hw.rl b h;omega
  ·omega)
 unfold Oper.wp
 rw [hex]
 refine hK { X with w:=X.w.alloc (.cells arr e'),R:=fun b=>X.R b∨b=X.w.heap.size } _ e1 w1 rfl rfl (.dat _ _ ?_)
 show Rep (X.w.alloc (.cells arr e')) (fun b=>X.R b∨b=X.w.heap.size) (.sl (X.ety k) k.esz [elemCD X.ety k y]) _
 have hlen:(elemCD X.ety k y).length=k.esz:=elemCD_len X.ety k y
 refine Rep.sl _ _ [elemCD X.ety k y] _ 1 (fun j=>(arr[j]?).getD undef) (by simp) (fun row hr=>by simp at hr;rw [hr];exact hlen) (fun j cd hj=>?_) (fun j cd hj=>?_)
 ·simp at hj
  obtain ⟨z,hz1,_⟩:=hcell j cd hj
  have hlt:j < k.esz:=by rw [← hlen];exact (List.getElem?_eq_some_iff.1 hj).1
  have hz2:=r2 j hlt
  rw [hz1] at hz2
  refine ⟨_,0,rfl,.inr rfl,?_⟩
  rw [hz2,Nat.zero_add]
  show (match (X.w.alloc (.cells arr e')).heap[X.w.heap.size]? with | some (.cells c _ _)=>if (none:Option Nat).isSome then none else c[j]? | _=>none)=_
  rw [hnew]
  exact hz2
 ·simp at hj
  obtain ⟨z,hz1,hrep⟩:=hcell j cd hj
  have hlt:j < k.esz:=by rw [← hlen];exact (List.getElem?_eq_some_iff.1 hj).1
  have hz2:=r2 j hlt
  rw [hz1] at hz2
  show Rep _ _ cd ((arr[j]?).getD undef)
  rw [hz2]
  exact (hrep.keep fun b hb hs=>hkp.block b hs id).mono fun _ h=>.inl h
theorem stepP_sound (hE:EnvOk P E) (hety:X.ety=E.ety) (hw:WRel X G) {e:Operand→AV} (he:∀ x,x∈o.op.operands.toList→RelV X (e x) (a.eval x)) {p:Option Prop} {v:AV}
  (h:stepP E o e X.hp=some (p,v)) (hp:∀ q,p=some q→q):OpP P X G o a v:=by
 by_cases hc:∃ c,o.op=.call c
 ·obtain ⟨dst,op,ty,pos,after,gd⟩:=o
  obtain ⟨c,hc⟩:=hc
  cases hc
  obtain ⟨cal,args,ats⟩:=c
  have hargs:∀ x,x∈args.toList→RelV X (e x) (a.eval x):=fun x hx=>he x (by simp only [Op.operands,Call.operands];cases cal<;>simp [Array.mem_toList_iff.1 hx])
  cases cal with
  | value f=>exact call_sound hE hety hw (he f (by simp [Op.operands,Call.operands])) hargs h hp
  | invoke r m=>cases h
  | builtin b =>
   obtain ⟨hl,hr⟩:=map_rel (e:=e) (a:=a) hargs
   cases b with
   | len =>
    simp only [stepP] at h
    split at h
    ·rename_i x t hx ht
     have hxa:args=#[x]:=by rw [← hx]
     have hta:ats=#[t]:=by rw [← ht]
     subst hxa
     subst hta
     obtain ⟨u,hu,hv⟩:=len_sound hE hw (hargs x (by simp)) h (ty:=ty)
     refine .of hw (u:=u) ?_ hv
     simp [execOp,resolve,invoke,builtin,hu]
    ·cases h
   | min =>
    simp only [stepP] at h
    cases hm:minmax false (args.toList.map e) with
    | none=>rw [hm] at h;cases h
    | some m =>
     rw [hm] at h
     cases h
     obtain ⟨u,hu,hv⟩:=minmax_sound (P:=P) (X:=X) (ats:=ats) (ty:=ty) hl hr hm
     refine .of hw (u:=u) ?_ hv
     simp only [Bool.false_eq_true,if_false] at hu
     simp [execOp,resolve,invoke,builtin,hu]
   | max =>
    simp only [stepP] at h
    cases hm:minmax true (args.toList.map e) with
    | none=>rw [hm] at h;cases h
    | some m =>
     rw [hm] at h
     cases h
     obtain ⟨u,hu,hv⟩:=minmax_sound (P:=P) (X:=X) (ats:=ats) (ty:=ty) hl hr hm
     refine .of hw (u:=u) ?_ hv
     simp only [if_true] at hu
     simp [execOp,resolve,invoke,builtin,hu]
   | _=>cases h
 ·by_cases hb:∃ t ps,o.op=.build t ps
  ·obtain ⟨dst,op,ty,pos,after,gd⟩:=o
   obtain ⟨t,ps,hb⟩:=hb
   cases hb
   exact build_sound hE hw he h
  ·by_cases hs:∃ t l ps,o.op=.buildSlice t l ps
   ·obtain ⟨dst,op,ty,pos,after,gd⟩:=o
    obtain ⟨t,l,ps,hs⟩:=hs
    cases hs
    exact lit_sound hE hw he h
   ·exact notcall_sound hE hety hw he h hp (fun c hcc=>hc ⟨c,hcc⟩) (fun t ps hbb=>hb ⟨t,ps,hbb⟩) (fun t l ps hss=>hs ⟨t,l,ps,hss⟩)
end
end Go.Ab
namespace Go.Ab
open Go
variable [GI]
theorem hgt_hput (n m:Nat) (o:AObj):∀ hp:Hp,hgt (hput n o hp) m=if n=m then o else hgt hp m
 | []=>rfl
 | (i,x) :: r=>by
  unfold hput
  by_cases hi:i=n
  ·rw [if_pos hi]
   subst hi
   by_cases hm:i=m
   ·simp [hgt,hm]
   ·simp [hgt,hm]
  ·rw [if_neg hi]
   show (if i=m then x else hgt (hput n o r) m)=_
   rw [hgt_hput n m o r]
   by_cases hm:i=m
   ·subst hm
    rw [if_pos rfl,if_neg (fun h=>hi h.symm)]
    simp [hgt]
   ·rw [if_neg hm]
    simp [hgt,hm]
section
variable {P:Program} {E:Env} {X Y:Ctx} {G:Beg} {o:Oper} {a:Act}
structure Free (X:Ctx) (G:Beg) (F:Nat→Prop):Prop where
 nr:∀ b,F b→¬ X.R b
 nl:∀ id b,live X id→(X.ob id).F b→¬ F b
 lt:∀ b,F b→b < X.w.heap.size
 ok:∀ b,F b→G.w0.heap.size≤b∨G.F0 b
theorem Free.sub {F F':Nat→Prop} (h:Free X G F) (hs:∀ b,F' b→F b):Free X G F' :=
 ⟨fun b hb=>h.nr b (hs b hb),fun id b h1 h2 h3=>h.nl id b h1 h2 (hs b h3),fun b hb=>h.lt b (hs b hb),fun b hb=>h.ok b (hs b hb)⟩
theorem Free.empty:Free X G (fun _=>False):=⟨fun _ h=>h.elim,fun _ _ _ _ h=>h,fun _ h=>h.elim,fun _ h=>h.elim⟩
def Foot (X Y:Ctx) (F:Nat→Prop):Prop:=∀ id b,live Y id→(Y.ob id).F b→(∃ id',live X id'∧(X.ob id').F b)∨F b
theorem Foot.refl (X:Ctx):Foot X X (fun _=>False):=fun id _ h1 h2=>.inl ⟨id,h1,h2⟩
theorem Foot.trans {Z:Ctx} {F F':Nat→Prop} (h:Foot X Y F) (k:Foot Y Z F'):Foot X Z (fun b=>F b∨F' b):=fun id b h1 h2=>by
 rcases k id b h1 h2 with ⟨id',h3,h4⟩ | h
 ·rcases h id' b h3 h4 with h | h
  ·exact .inl h
  ·exact .inr (.inl h)
 ·exact .inr (.inr h)
theorem Foot.mono {F F':Nat→Prop} (h:Foot X Y F) (hs:∀ b,F b→F' b):Foot X Y F':=fun id b h1 h2=>(h id b h1 h2).imp_right (hs b)
theorem Free.foot {F F':Nat→Prop} (h:Free X G F) (hf:Foot X Y F') (hw:Y.w=X.w) (hR:Y.R=X.R) (hd:∀ b,F b→F' b→False):Free Y G F:=by
 refine ⟨by rw [hR];exact h.nr,fun id b h1 h2 h3=>?_,by rw [hw];exact h.lt,h.ok⟩
 rcases hf id b h1 h2 with ⟨id',h4,h5⟩ | h4
 ·exact h.nl id' b h4 h5 h3
 ·exact hd b h3 h4
structure Same (X Y:Ctx):Prop where
 ext:Ext X Y
 w:Y.w=X.w
 R:Y.R=X.R
theorem Same.refl (X:Ctx):Same X X:=⟨.refl X,rfl,rfl⟩
theorem Same.trans {Z:Ctx} (h:Same X Y) (k:Same Y Z):Same X Z:=⟨h.ext.trans (fun b _ hb=>by rw [h.w];exact hb) k.ext,k.w.trans h.w,k.R.trans h.R⟩
theorem ObjOk.ext {X Y:Ctx} (e:Ext X Y) (hw:Y.w=X.w) (hR:Y.R=X.R) {id:Nat} (hh:hgt Y.hp id=hgt X.hp id) (ho:Y.ob id=X.ob id) (h:ObjOk X id):ObjOk Y id:=by
 unfold ObjOk at h ⊢
 rw [hh,ho,hw,hR,e.ety]
 cases hz:hgt X.hp id with
 | box t cs =>
  rw [hz] at h
  obtain ⟨g,t',arr,h1,h2,h3,h4,h5,h6⟩:=h
  exact ⟨g,t',arr,h1,h2,h3,fun j c u hj hu=>(h4 j c u hj hu).ext e,h5,h6⟩
 | row o d =>
  rw [hz] at h
  exact h
 | hol d i cs =>
  rw [hz] at h
  exact ⟨h.1,h.2.ext e fun b _=>by rw [hw]⟩
 | zip l p id2 cs =>
  rw [hz] at h
  refine ⟨h.1,⟨Nat.lt_of_lt_of_le h.2.1.1 e.nx,h.2.1.2⟩,?_⟩
  rw [(e.ob id2 h.2.1.1).1]
  exact h.2.2.ext e fun b _=>by rw [hw]
 | dead=>trivial
abbrev killC (X:Ctx) (id:Nat):Ctx:={ X with hp:=hput id .dead X.hp }
theorem live_kill {id i:Nat} (h:live (killC X id) i):live X i∧id≠i:=by
 unfold live at h ⊢
 rw [show (killC X id).hp=hput id .dead X.hp from rfl,hgt_hput] at h
 by_cases hi:id=i
 ·rw [if_pos hi] at h;exact absurd rfl h
 ·rw [if_neg hi] at h;exact ⟨h,hi⟩
theorem kill_same (id:Nat):Same X (killC X id):=⟨⟨rfl,Nat.le_refl _,fun _ h=>h,fun _ _ _=>rfl,fun _ _=>⟨rfl,rfl⟩⟩,rfl,rfl⟩
theorem kill_rel (hw:WRel X G) (id:Nat):WRel (killC X id) G:=by
 refine ⟨fun i=>?_,fun i hi=>?_,fun i j b h1 h2=>hw.dj i j b (live_kill h1).1 (live_kill h2).1,fun i b h1=>hw.dr i b (live_kill h1).1,hw.rl,hw.kp,hw.r0,hw.rn,fun i b h1=>hw.fn i b (live_kill h1).1,hw.gi⟩
 ·by_cases hi:id=i
  ·unfold ObjOk
   rw [show (killC X id).hp=hput id .dead X.hp from rfl,hgt_hput,if_pos hi]
   trivial
  ·exact ObjOk.ext (kill_same id).ext rfl rfl (by rw [show (killC X id).hp=hput id .dead X.hp from rfl,hgt_hput,if_neg hi]) rfl (hw.ob i)
 ·rw [show (killC X id).hp=hput id .dead X.hp from rfl,hgt_hput]
  split
  ·rfl
  ·exact hw.nxl i hi
theorem kill_foot (id:Nat):Foot X (killC X id) (fun _=>False):=fun i _ h1 h2=>.inl ⟨i,(live_kill h1).1,h2⟩
theorem kill_free (hw:WRel X G) {id:Nat} (hl:live X id):Free (killC X id) G (X.ob id).F :=
 ⟨fun b hb=>hw.dr id b hl hb,fun i b h1 h2 h3=>(live_kill h1).2 (hw.dj id i b hl (live_kill h1).1 h3 h2),fun _ hb=>live_lt_heap hw hl hb,fun b hb=>hw.fn id b hl hb⟩
abbrev setC (X:Ctx) (id:Nat) (ob:AObj) (i:OI) (nx:Nat):Ctx:={ X with hp:=hput id ob X.hp,nx:=nx,ob:=fun n=>if n=id then i else X.ob n }
theorem set_same {id:Nat} {ob:AObj} {i:OI} {nx:Nat} (hn:X.nx≤nx) (hold:id < X.nx→i.v=(X.ob id).v∧i.k=(X.ob id).k):Same X (setC X id ob i nx):=by
 refine ⟨⟨rfl,hn,fun _ h=>h,fun _ _ _=>rfl,fun n hid=>?_⟩,rfl,rfl⟩
 show (if n=id then i else X.ob n).v=_∧(if n=id then i else X.ob n).k=_
 by_cases h:n=id
 ·subst h
  rw [if_pos rfl]
  exact hold hid
 ·rw [if_neg h]
  exact ⟨rfl,rfl⟩
theorem set_live {id:Nat} {ob:AObj} {i:OI} {nx n:Nat} (h:live (setC X id ob i nx) n):n=id∨(n≠id∧live X n):=by
 by_cases hn:n=id
 ·exact .inl hn
 ·refine .inr ⟨hn,?_⟩
  unfold live at h ⊢
  rw [show (setC X id ob i nx).hp=hput id ob X.hp from rfl,hgt_hput,if_neg fun e=>hn e.symm] at h
  exact h
theorem set_foot {id:Nat} {ob:AObj} {i:OI} {nx:Nat}:Foot X (setC X id ob i nx) i.F:=by
 intro n b h1 h2
 rcases set_live h1 with rfl | ⟨hn,hl⟩
 ·exact .inr (by simpa using h2)
 ·exact .inl ⟨n,hl,by simpa [hn] using h2⟩
theorem set_rel (hw:WRel X G) {id:Nat} {ob:AObj} {i:OI} {nx:Nat} (hn:X.nx≤nx) (hid:id < nx) (hold:id < X.nx→i.v=(X.ob id).v∧i.k=(X.ob id).k) (hF:Free X G i.F)
  (hob:ObjOk (setC X id ob i nx) id):WRel (setC X id ob i nx) G:=by
 have hs:=set_same (X:=X) (ob:=ob) hn hold
 have hobn:∀ n,n≠id→(setC X id ob i nx).ob n=X.ob n:=fun n h=>if_neg h
 have hobi:(setC X id ob i nx).ob id=i:=if_pos rfl
 refine ⟨fun n=>?_,fun n h=>?_,fun n m b h1 h2 h3 h4=>?_,fun n b h1 h2=>?_,hw.rl,hw.kp,hw.r0,hw.rn,fun n b h1 h2=>?_,hw.gi⟩
 ·by_cases h:n=id
  ·rw [h];exact hob
  ·refine ObjOk.ext hs.ext rfl rfl ?_ (hobn n h) (hw.ob n)
   rw [show (setC X id ob i nx).hp=hput id ob X.hp from rfl,hgt_hput,if_neg fun e=>h e.symm]
 ·rw [show (setC X id ob i nx).hp=hput id ob X.hp from rfl,hgt_hput]
  have h:nx≤n:=h
  rw [if_neg (by omega)]
  exact hw.nxl n (by omega)
 ·rcases set_live h1 with rfl | ⟨hn1,hl1⟩
  ·rcases set_live h2 with rfl | ⟨hn2,hl2⟩
   ·rfl
   ·rw [hobi] at h3
    rw [hobn m hn2] at h4
    exact absurd h3 (hF.nl m b hl2 h4)
  ·rcases set_live h2 with rfl | ⟨hn2,hl2⟩
   ·rw [hobi] at h4
    rw [hobn n hn1] at h3
    exact absurd h4 (hF.nl n b hl1 h3)
   ·rw [hobn n hn1] at h3
    rw [hobn m hn2] at h4
    exact hw.dj n m b hl1 hl2 h3 h4
 ·rcases set_live h1 with rfl | ⟨hn1,hl1⟩
  ·rw [hobi] at h2
   exact hF.nr b h2
  ·rw [hobn n hn1] at h2
   exact hw.dr n b hl1 h2
 ·rcases set_live h1 with rfl | ⟨hn1,hl1⟩
  ·rw [hobi] at h2
   exact hF.ok b h2
  ·rw [hobn n hn1] at h2
   exact hw.fn n b hl1 h2
theorem setRow_rel (hw:WRel X G) {id:Nat} {q:Bool} {d:Data} {v:Value} {F:Nat→Prop} {nx:Nat} (hn:X.nx≤nx) (hid:id < nx) (hold:id < X.nx→v=(X.ob id).v∧d.k=(X.ob id).k) (hF:Free X G F)
  (ho:OwnO X.w X.R q (dataCD X.ety d) v F):WRel (setC X id (.row q d) ⟨v,F,d.k⟩ nx) G:=by
 refine set_rel hw hn hid hold hF ?_
 unfold ObjOk
 rw [show (setC X id (.row q d) ⟨v,F,d.k⟩ nx).hp=hput id (.row q d) X.hp from rfl,hgt_hput,if_pos rfl]
 show d.k=(if id=id then (⟨v,F,d.k⟩:OI) else X.ob id).k∧OwnO X.w X.R q (dataCD X.ety d) (if id=id then (⟨v,F,d.k⟩:OI) else X.ob id).v (if id=id then (⟨v,F,d.k⟩:OI) else X.ob id).F
 rw [if_pos rfl]
 exact ⟨rfl,ho⟩
theorem setBox_rel' (hw:WRel X G) {id:Nat} {t t':TypeId} {cs:List AV} {b:Nat} {arr:Array Value} {k:K} {nx:Nat} (hn:X.nx≤nx) (hid:id < nx) (hold:id < X.nx→.pointer (some ⟨b,0,none⟩)=(X.ob id).v∧k=(X.ob id).k)
  (hF:Free X G fun n=>n=b) (hb:X.w.heap[b]?=some (.cells arr t' (0,0))) (hl:arr.size=cs.length)
  (hc:∀ (j:Nat) (c:AV) (u:Value),cs[j]?=some c→arr[j]?=some u→RelV (setC X id (.box t cs) ⟨.pointer (some ⟨b,0,none⟩),fun n=>n=b,k⟩ nx) c u) (htg:TagC cs t') :
  WRel (setC X id (.box t cs) ⟨.pointer (some ⟨b,0,none⟩),fun n=>n=b,k⟩ nx) G:=by
 refine set_rel hw hn hid hold hF ?_
 unfold ObjOk
 rw [show (setC X id (.box t cs) ⟨.pointer (some ⟨b,0,none⟩),fun n=>n=b,k⟩ nx).hp=hput id (.box t cs) X.hp from rfl,hgt_hput,if_pos rfl]
 refine ⟨b,t',arr,by simp,hb,hl,hc,fun n=>by simp,htg⟩
theorem setBox_rel (hw:WRel X G) {id:Nat} {t t':TypeId} {cs:List AV} {b:Nat} {arr:Array Value} {k:K} {nx:Nat} (hn:X.nx≤nx) (hid:id < nx) (hold:id < X.nx→.pointer (some ⟨b,0,none⟩)=(X.ob id).v∧k=(X.ob id).k)
  (hF:Free X G fun n=>n=b) (hb:X.w.heap[b]?=some (.cells arr t' (0,0))) (hl:arr.size=cs.length) (hc:∀ (j:Nat) (c:AV) (u:Value),cs[j]?=some c→arr[j]?=some u→RelV X c u) (htg:TagC cs t') :
  WRel (setC X id (.box t cs) ⟨.pointer (some ⟨b,0,none⟩),fun n=>n=b,k⟩ nx) G :=
 setBox_rel' hw hn hid hold hF hb hl (fun j c u hj hu=>(hc j c u hj hu).ext (set_same (X:=X) (id:=id) (ob:=.box t cs) (i:=⟨.pointer (some ⟨b,0,none⟩),fun n=>n=b,k⟩) hn hold).ext) htg
theorem world_ext {F:Nat→Prop} {w':World} {R':Nat→Prop} (hF:Free X G F) (hk:Keep F X.w w') (hR:∀ b,X.R b→R' b):Ext X { X with w:=w',R:=R' } :=
 ⟨rfl,Nat.le_refl _,hR,fun b hb hs=>hk.block b hs fun h=>hF.nr b h hb,fun _ _=>⟨rfl,rfl⟩⟩
theorem world_rel (hw:WRel X G) {F:Nat→Prop} {w':World} {R':Nat→Prop} (hF:Free X G F) (hk:Keep F X.w w') (hR:∀ b,X.R b→R' b) (hn:∀ b,R' b→X.R b∨X.w.heap.size≤b∨F b) (hl:∀ b,R' b→b < w'.heap.size) :
  WRel { X with w:=w',R:=R' } G:=by
 have e:=world_ext (R':=R') hF hk hR
 refine ⟨fun id=>?_,hw.nxl,fun id id' b h1 h2=>hw.dj id id' b h1 h2,fun id b h1 h2 h3=>?_,hl,?_,fun b hb=>hR b (hw.r0 b hb),fun b hb=>?_,hw.fn,GI.mono hw.gi hR fun b hb hs=>hk.block b hs fun h=>hF.nr b h hb⟩
 ·have h:=hw.ob id
  have hlv:∀ b,live X id→(X.ob id).F b→w'.heap[b]?=X.w.heap[b]?:=fun b h1 h2=>hk.block b (live_lt_heap hw h1 h2) (hF.nl id b h1 h2)
  unfold ObjOk at h ⊢
  show match hgt X.hp id with | _=>_
  cases hz:hgt X.hp id with
  | box t cs =>
   rw [hz] at h
   obtain ⟨g,t',arr,h1,h2,h3,h4,h5,h6⟩:=h
   exact ⟨g,t',arr,h1,by rw [show ({ X with w:=w',R:=R' }:Ctx).w=w' from rfl,hlv g (by unfold live;rw [hz];simp) ((h5 g).2 rfl)];exact h2,h3,fun j c u hj hu=>(h4 j c u hj hu).ext e,h5,h6⟩
  | row o d =>
   rw [hz] at h
   exact ⟨h.1,(OwnO.keep h.2 (fun b hb=>hlv b (by unfold live;rw [hz];simp) hb) (fun b hb hs=>hk.block b hs fun h=>hF.nr b h hb)).mono hR⟩
  | hol d i cs =>
   rw [hz] at h
   exact ⟨h.1,h.2.ext e fun b hb=>hlv b (by unfold live;rw [hz];simp) hb⟩
  | zip l p id2 cs =>
   rw [hz] at h
   exact ⟨h.1,h.2.1,h.2.2.ext e fun b hb=>hlv b (by unfold live;rw [hz];simp) hb⟩
  | dead=>trivial
 ·rcases hn b h3 with h | h | h
  ·exact hw.dr id b h1 h2 h
  ·have:=live_lt_heap hw h1 h2
   omega
  ·exact hF.nl id b h1 h2 h
 ·refine ⟨hk.os.trans hw.kp.os,hk.tape.trans hw.kp.tape,hk.output.trans hw.kp.output,Nat.le_trans hw.kp.size hk.size,fun b hb hs=>?_⟩
  have hnF:¬ F b:=fun h=>by
   rcases hF.ok b h with h | h
   ·omega
   ·exact hs h
  exact (hk.block b (Nat.lt_of_lt_of_le hb hw.kp.size) hnF).trans (hw.kp.block b hb hs)
 ·rcases hn b hb with h | h | h
  ·exact hw.rn b h
  ·exact .inr (.inl (Nat.le_trans hw.kp.size h))
  ·exact .inr (hF.ok b h)
theorem RelA.ext {c:AV} {v:Value} {F:Nat→Prop} (h:RelA X c v F) (e:Ext X Y) (hw:Y.w=X.w):RelA Y c v F:=by
 induction h with
 | pl c v F h hF=>exact .pl c v F (h.ext e) hF
 | own o d v F h=>exact .own o d v F (by rw [hw,e.ety];exact h.mono e.R)
 | agg cs vs fs F hl h hd hF ih=>exact .agg cs vs fs F hl ih hd hF
 | tup cs vs fs F hl h hd hF ih=>exact .tup cs vs fs F hl ih hd hF
 | fn f cs vs fs F hl h hd hF ih=>exact .fn f cs vs fs F hl ih hd hF
 | pb cs b t arr fs F hb hl h hd hnb hF hsf ih=>exact .pb cs b t arr fs F (by rw [hw];exact hb) hl ih hd hnb hF hsf
theorem RelA.lt {c:AV} {v:Value} {F:Nat→Prop} (h:RelA X c v F):∀ b,F b→b < X.w.heap.size:=by
 induction h with
 | pl c v F h hF=>exact fun b hb=>absurd hb (hF b)
 | own o d v F h=>exact fun b hb=>h.lt b hb
 | agg cs vs fs F hl h hd hF ih =>
  intro b hb
  obtain ⟨j,hj,hf⟩:=(hF b).1 hb
  exact ih j cs[j] (vs[j]'(by omega)) (List.getElem?_eq_getElem hj) (Array.getElem?_eq_getElem (by omega)) b hf
 | tup cs vs fs F hl h hd hF ih =>
  intro b hb
  obtain ⟨j,hj,hf⟩:=(hF b).1 hb
  exact ih j cs[j] (vs[j]'(by omega)) (List.getElem?_eq_getElem hj) (Array.getElem?_eq_getElem (by omega)) b hf
 | fn f cs vs fs F hl h hd hF ih =>
  intro b hb
  obtain ⟨j,hj,hf⟩:=(hF b).1 hb
  exact ih j cs[j] (vs[j]'(by omega)) (List.getElem?_eq_getElem hj) (Array.getElem?_eq_getElem (by omega)) b hf
 | pb cs n t arr fs F hb hl h hd hnb hF hsf ih =>
  intro b hbb
  rcases (hF b).1 hbb with rfl | ⟨j,hj,hf⟩
  ·exact lt_of_heap hb
  ·exact ih j cs[j] (arr[j]'(by omega)) (List.getElem?_eq_getElem hj) (Array.getElem?_eq_getElem (by omega)) b hf
theorem ctx0_ext (X:Ctx) {w:World} {R:Nat→Prop} (hw:X.w=w) (hR:∀ b,R b→X.R b):Ext (ctx0 X.ety w R) X :=
 ⟨rfl,Nat.zero_le _,hR,fun b _ _=>by rw [hw];rfl,fun _ h=>absurd h (Nat.not_lt_zero _)⟩
end
end Go.Ab
namespace Go.Ab
open Go
variable [GI]
section
variable {P:Program} {E:Env} {X Y:Ctx} {G:Beg} {o:Oper} {a:Act}
def Taken (X:Ctx) (G:Beg) (r:AV × Hp) (u:Value):Prop :=
 ∃ F,WRel { X with hp:=r.2 } G∧Same X { X with hp:=r.2 }∧Foot X { X with hp:=r.2 } (fun _=>False)∧RelA { X with hp:=r.2 } r.1 u F∧Free { X with hp:=r.2 } G F∧∀ b,F b→∃ id,live X id∧(X.ob id).F b
theorem Taken.same (hw:WRel X G) {c:AV} {u:Value} (h:RelV X c u):Taken X G (c,X.hp) u :=
 ⟨fun _=>False,hw,.refl X,.refl X,.pl _ _ _ h (fun _ h=>h),.empty,fun _ h=>h.elim⟩
theorem take0_rel (hw:WRel X G) {c:AV} {u:Value} (h:RelV X c u):Taken X G (take0 c X.hp) u:=by
 have any:∀ {u},Taken X G (.any,X.hp) u:=Taken.same hw (.any _)
 cases hc:c with
 | row id =>
  cases hz:hgt X.hp id with
  | row q d =>
   have e:take0 (.row id) X.hp=(.own q d,hput id .dead X.hp):=by show (match hgt X.hp id with | .row o d=>_ | _=>_)=_;rw [hz]
   rw [e]
   rw [hc] at h
   have hl:live X id:=by unfold live;rw [hz];simp
   obtain ⟨hv,hk,ho⟩:=row_val hw h hz
   exact ⟨(X.ob id).F,kill_rel hw id,kill_same id,kill_foot id,.own q d u _ (by rw [hv];rw [hv] at ho;exact ho),kill_free hw hl,fun b hb=>⟨id,hl,hb⟩⟩
  | box t cs =>
   have e:take0 (.row id) X.hp=(.any,X.hp):=by show (match hgt X.hp id with | .row o d=>_ | _=>_)=_;rw [hz]
   rw [e]
   exact any
  | zip l p j cs =>
   have e:take0 (.row id) X.hp=(.any,X.hp):=by show (match hgt X.hp id with | .row o d=>_ | _=>_)=_;rw [hz]
   rw [e]
   exact any
  | hol d i cs =>
   have e:take0 (.row id) X.hp=(.any,X.hp):=by show (match hgt X.hp id with | .row o d=>_ | _=>_)=_;rw [hz]
   rw [e]
   exact any
  | dead =>
   have e:take0 (.row id) X.hp=(.any,X.hp):=by show (match hgt X.hp id with | .row o d=>_ | _=>_)=_;rw [hz]
   rw [e]
   exact any
 | _=>rw [hc] at h;exact Taken.same hw h
structure Apart (X:Ctx) (G:Beg) (cs:List AV) (us:List Value) (fs:Nat→Nat→Prop):Prop where
 len:cs.length=us.length
 rel:∀ (j:Nat) (c:AV) (u:Value),cs[j]?=some c→us[j]?=some u→RelA X c u (fs j)
 dis:∀ j k b,j < cs.length→k < cs.length→fs j b→fs k b→j=k
 free:∀ j,j < cs.length→Free X G (fs j)
theorem Apart.nil:Apart X G [] [] (fun _ _=>False):=⟨rfl,fun j c u h=>by simp at h,fun j k b h=>absurd h (Nat.not_lt_zero _),fun j h=>absurd h (Nat.not_lt_zero _)⟩
def consF (F:Nat→Prop) (fs:Nat→Nat→Prop):Nat→Nat→Prop
 | 0=>F
 | j+1=>fs j
theorem Apart.cons {c:AV} {u:Value} {F:Nat→Prop} {cs:List AV} {us:List Value} {fs:Nat→Nat→Prop} (h:RelA X c u F) (hF:Free X G F) (ht:Apart X G cs us fs) (hd:∀ j b,j < cs.length→fs j b→¬ F b) :
  Apart X G (c :: cs) (u :: us) (consF F fs):=by
 refine ⟨by simp [ht.len],fun j c' u' hj hu=>?_,fun j k b hj hk h1 h2=>?_,fun j hj=>?_⟩
 ·cases j with
  | zero=>simp at hj hu;subst hj;subst hu;exact h
  | succ j=>exact ht.rel j c' u' (by simpa using hj) (by simpa using hu)
 ·cases j with
  | zero=>cases k with
   | zero=>rfl
   | succ k=>exact absurd h1 (hd k b (by simpa using hk) h2)
  | succ j=>cases k with
   | zero=>exact absurd h2 (hd j b (by simpa using hj) h1)
   | succ k=>exact congrArg (·+1) (ht.dis j k b (by simpa using hj) (by simpa using hk) h1 h2)
 ·cases j with
  | zero=>exact hF
  | succ j=>exact ht.free j (by simpa using hj)
theorem Apart.head {c:AV} {u:Value} {cs:List AV} {us:List Value} {fs:Nat→Nat→Prop} (h:Apart X G (c :: cs) (u :: us) fs):RelA X c u (fs 0)∧Free X G (fs 0)∧Apart X G cs us (fun j=>fs (j+1))∧∀ j b,j < cs.length→fs (j+1) b→¬ fs 0 b :=
 ⟨h.rel 0 c u rfl rfl,h.free 0 (by simp),⟨by simpa using h.len,fun j c u hj hu=>h.rel (j+1) c u (by simpa using hj) (by simpa using hu),fun j k b hj hk h1 h2=>by have:=h.dis (j+1) (k+1) b (by simpa using hj) (by simpa using hk) h1 h2;omega,fun j hj=>h.free (j+1) (by simpa using hj)⟩,
  fun j b hj h1 h2=>by have:=h.dis (j+1) 0 b (by simpa using hj) (by simp) h1 h2;omega⟩
theorem Apart.step {cs:List AV} {us:List Value} {fs:Nat→Nat→Prop} {F:Nat→Prop} (h:Apart X G cs us fs) (hs:Same X Y) (hf:Foot X Y F) (hd:∀ j b,j < cs.length→fs j b→¬ F b):Apart Y G cs us fs :=
 ⟨h.len,fun j c u hj hu=>(h.rel j c u hj hu).ext hs.ext hs.w,h.dis,fun j hj=>(h.free j hj).foot hf hs.w hs.R fun b h1 h2=>hd j b hj h1 h2⟩
def TakenL (X:Ctx) (G:Beg) (r:List AV × Hp) (us:List Value):Prop :=
 ∃ fs,WRel { X with hp:=r.2 } G∧Same X { X with hp:=r.2 }∧Foot X { X with hp:=r.2 } (fun _=>False)∧Apart { X with hp:=r.2 } G r.1 us fs∧∀ j b,j < r.1.length→fs j b→∃ id,live X id∧(X.ob id).F b
theorem TakenL.cons {c:AV} {cs:List AV} {h1 h2:Hp} {u:Value} {us:List Value} (h:Taken X G (c,h1) u) (k:TakenL { X with hp:=h1 } G (cs,h2) us):TakenL X G (c :: cs,h2) (u :: us):=by
 obtain ⟨F,h1,h2,h3,h4,h5,h6⟩:=h
 obtain ⟨fs,k1,k2,k3,k4,k5⟩:=k
 refine ⟨consF F fs,k1,h2.trans k2,(h3.trans k3).mono (fun b h=>h.elim id id),Apart.cons (h4.ext k2.ext k2.w) (h5.foot k3 k2.w k2.R fun _ _ h=>h) k4 (fun j b hj hf hb=>?_),fun j b hj hf=>?_⟩
 ·obtain ⟨id,h7,h8⟩:=k5 j b hj hf
  exact h5.nl id b h7 h8 hb
 ·cases j with
  | zero=>exact h6 b hf
  | succ j =>
   obtain ⟨id,h7,h8⟩:=k5 j b (by simpa using hj) hf
   exact (h3 id b h7 h8).resolve_right (fun h=>h)
theorem takes_rel {f:AV→Hp→AV × Hp} {tl:List AV→Hp→List AV × Hp} (h0:∀ hp,tl [] hp=([],hp)) (h1:∀ v vs hp,tl (v :: vs) hp=((f v hp).1 :: (tl vs (f v hp).2).1,(tl vs (f v hp).2).2))
  (hf:∀ {X:Ctx},WRel X G→∀ {c:AV} {u:Value},RelV X c u→Taken X G (f c X.hp) u):∀ {cs:List AV} {us:List Value} {X:Ctx},WRel X G→cs.length=us.length →
  (∀ (j:Nat) (c:AV) (u:Value),cs[j]?=some c→us[j]?=some u→RelV X c u)→TakenL X G (tl cs X.hp) us
 | [],[],X,hw,_,_=>by rw [h0];exact ⟨fun _ _=>False,hw,.refl X,.refl X,.nil,fun j b h=>absurd h (Nat.not_lt_zero _)⟩
 | c :: cs,u :: us,X,hw,hl,hr=>by
  rw [h1]
  have ht:=hf hw (hr 0 c u rfl rfl)
  obtain ⟨F,k1,k2,_⟩:=id ht
  exact TakenL.cons ht (takes_rel h0 h1 hf k1 (by simpa using hl) fun j c u hj hu=>(hr (j+1) c u (by simpa using hj) (by simpa using hu)).ext k2.ext)
theorem TakenL.agg {r:List AV × Hp} {us:Array Value} (h:TakenL X G r us.toList):Taken X G (.agg r.1,r.2) (.agg us):=by
 obtain ⟨fs,k1,k2,k3,k4,k5⟩:=h
 refine ⟨fun b=>∃ j,j < r.1.length∧fs j b,k1,k2,k3,.agg _ us fs _ (by rw [k4.len];simp) (fun j c u hj hu=>k4.rel j c u hj (by simpa using hu)) k4.dis (fun _=>Iff.rfl),?_,fun b ⟨j,hj,hb⟩=>k5 j b hj hb⟩
 exact ⟨fun b ⟨j,hj,hb⟩=>(k4.free j hj).nr b hb,fun i b h1 h2 ⟨j,hj,hb⟩=>(k4.free j hj).nl i b h1 h2 hb,fun b ⟨j,hj,hb⟩=>(k4.free j hj).lt b hb,fun b ⟨j,hj,hb⟩=>(k4.free j hj).ok b hb⟩
theorem TakenL.tup {r:List AV × Hp} {us:Array Value} (h:TakenL X G r us.toList):Taken X G (.tup r.1,r.2) (.tuple us):=by
 obtain ⟨fs,k1,k2,k3,k4,k5⟩:=h
 refine ⟨fun b=>∃ j,j < r.1.length∧fs j b,k1,k2,k3,.tup _ us fs _ (by rw [k4.len];simp) (fun j c u hj hu=>k4.rel j c u hj (by simpa using hu)) k4.dis (fun _=>Iff.rfl),?_,fun b ⟨j,hj,hb⟩=>k5 j b hj hb⟩
 exact ⟨fun b ⟨j,hj,hb⟩=>(k4.free j hj).nr b hb,fun i b h1 h2 ⟨j,hj,hb⟩=>(k4.free j hj).nl i b h1 h2 hb,fun b ⟨j,hj,hb⟩=>(k4.free j hj).lt b hb,fun b ⟨j,hj,hb⟩=>(k4.free j hj).ok b hb⟩
theorem takeC_rel (hw:WRel X G) {cs:List AV} {us:List Value} (hl:cs.length=us.length) (hr:∀ (j:Nat) (c:AV) (u:Value),cs[j]?=some c→us[j]?=some u→RelV X c u):TakenL X G (takeC cs X.hp) us :=
 takes_rel (f:=take0) (tl:=takeC) (fun _=>rfl) (fun _ _ _=>rfl) (fun hw _ _ h=>take0_rel hw h) hw hl hr
theorem take1_rel (hw:WRel X G) {c:AV} {u:Value} (h:RelV X c u):Taken X G (take1 c X.hp) u:=by
 by_cases hc:∃ cs,c=.agg cs
 ·obtain ⟨cs,rfl⟩:=hc
  cases h with
  | agg cs vs hl hr=>exact (takeC_rel hw (us:=vs.toList) (by simpa using hl) fun j c u hj hu=>hr j c u hj (by simpa using hu)).agg
 ·have e:take1 c X.hp=take0 c X.hp:=by cases c<;>first | rfl | exact absurd ⟨_,rfl⟩ hc
  rw [e]
  exact take0_rel hw h
theorem takeL_rel (hw:WRel X G) {cs:List AV} {us:List Value} (hl:cs.length=us.length) (hr:∀ (j:Nat) (c:AV) (u:Value),cs[j]?=some c→us[j]?=some u→RelV X c u):TakenL X G (takeL cs X.hp) us :=
 takes_rel (f:=take1) (tl:=takeL) (fun _=>rfl) (fun _ _ _=>rfl) (fun hw _ _ h=>take1_rel hw h) hw hl hr
theorem takeV_rel (hw:WRel X G) {c:AV} {u:Value} (h:RelV X c u):Taken X G (takeV c X.hp) u:=by
 by_cases hc:∃ cs,c=.tup cs
 ·obtain ⟨cs,rfl⟩:=hc
  cases h with
  | tup cs vs hl hr=>exact (takeL_rel hw (us:=vs.toList) (by simpa using hl) fun j c u hj hu=>hr j c u hj (by simpa using hu)).tup
 ·have e:takeV c X.hp=take1 c X.hp:=by cases c<;>first | rfl | exact absurd ⟨_,rfl⟩ hc
  rw [e]
  exact take1_rel hw h
def Bound (X:Ctx) (G:Beg) (r:AV × Hp × Nat) (u:Value) (F:Nat→Prop):Prop:=∃ Y:Ctx,Y.hp=r.2.1∧Y.nx=r.2.2∧WRel Y G∧Same X Y∧Foot X Y F∧RelV Y r.1 u
theorem Bound.same (hw:WRel X G) {c:AV} {u:Value} {F:Nat→Prop} (h:RelV X c u):Bound X G (c,X.hp,X.nx) u F:=⟨X,rfl,rfl,hw,.refl X,(Foot.refl X).mono fun _ h=>h.elim,h⟩
theorem pl0_rel {c:AV} {u:Value} {F:Nat→Prop} (h:RelA X c u F):RelV X (pl0 c) u:=by
 cases h with
 | pl c v F h hF=>cases h<;>first | exact .any _ | (constructor<;>assumption)
 | _=>exact .any _
theorem pl0s_rel {f:FuncId} {cs:List AV} {vs:Array Value} {fs:Nat→Nat→Prop} (hl:cs.length=vs.size) (h:∀ (j:Nat) (c:AV) (u:Value),cs[j]?=some c→vs[j]?=some u→RelA X c u (fs j)):RelV X (.fn f [] (cs.map pl0)) (.func (.func f) #[] vs):=by
 refine .fn f [] _ #[] vs rfl (by simpa using hl) (fun j c u hj=>by simp at hj) fun j c u hj hu=>?_
 rw [List.getElem?_map] at hj
 cases hc:cs[j]? with
 | none=>rw [hc] at hj;cases hj
 | some c0=>rw [hc] at hj;cases hj;exact pl0_rel (h j c0 u hc hu)
theorem fn_nil {f:FuncId} {cs:List AV} {u:Value} (h:RelV X (.fn f [] cs) u):∃ cv:Array Value,u=.func (.func f) #[] cv∧cs.length=cv.size∧∀ (j:Nat) (c:AV) (u:Value),cs[j]?=some c→cv[j]?=some u→RelV X c u:=by
 cases h with
 | fn f fs cs fv cv hf hc h1 h2 =>
  have:fv=#[]:=by
   obtain ⟨l⟩:=fv
   have:l.length=0:=by simpa using hf.symm
   rw [List.eq_nil_of_length_eq_zero this]
  subst this
  exact ⟨cv,rfl,hc,h2⟩
theorem bind0_rel (hw:WRel X G) {c:AV} {u:Value} {F:Nat→Prop} (h:RelA X c u F) (hF:Free X G F):Bound X G (bind0 c X.hp X.nx) u F:=by
 cases h with
 | pl c v F h hF' =>
  by_cases hc:∃ f cs,c=.fn f [] cs
  ·obtain ⟨f,cs,rfl⟩:=hc
   obtain ⟨cv,rfl,hl,hr⟩:=fn_nil h
   exact Bound.same hw (pl0s_rel (fs:=fun _ _=>False) hl fun j c u hj hu=>.pl _ _ _ (hr j c u hj hu) fun _ h=>h)
  ·cases h<;>first | exact Bound.same hw (.any _) | exact Bound.same hw (by constructor<;>assumption) | skip
   rename_i f fs cs fv cv hf hcl h1 h2
   cases fs with
   | nil=>exact absurd ⟨_,_,rfl⟩ hc
   | cons g fs=>exact Bound.same hw (.fn f (g :: fs) cs fv cv hf hcl h1 h2)
 | fn f cs vs fs F hl h hd hF'=>exact Bound.same hw (pl0s_rel hl h)
 | own q d v F h =>
  refine ⟨setC X X.nx (.row q d) ⟨u,F,d.k⟩ (X.nx+1),rfl,rfl,setRow_rel hw (Nat.le_succ _) (Nat.lt_succ_self _) (fun h=>absurd h (Nat.lt_irrefl _)) hF h,set_same (Nat.le_succ _) (fun h=>absurd h (Nat.lt_irrefl _)),set_foot,?_⟩
  exact .row _ _ (Nat.lt_succ_self _) (by simp)
 | agg cs vs fs F hl h hd hF'=>exact Bound.same hw (.any _)
 | tup cs vs fs F hl h hd hF'=>exact Bound.same hw (.any _)
 | pb cs b t arr fs F hb hl h hd hnb hF' hsf=>exact Bound.same hw (.any _)
def BoundL (X:Ctx) (G:Beg) (r:List AV × Hp × Nat) (us:List Value) (F:Nat→Prop):Prop :=
 ∃ Y:Ctx,Y.hp=r.2.1∧Y.nx=r.2.2∧WRel Y G∧Same X Y∧Foot X Y F∧r.1.length=us.length∧∀ (j:Nat) (c:AV) (u:Value),r.1[j]?=some c→us[j]?=some u→RelV Y c u
theorem binds_rel {f:AV→Hp→Nat→AV × Hp × Nat} {bl:List AV→Hp→Nat→List AV × Hp × Nat} (h0:∀ hp n,bl [] hp n=([],hp,n))
  (h1:∀ v vs hp n,bl (v :: vs) hp n=((f v hp n).1 :: (bl vs (f v hp n).2.1 (f v hp n).2.2).1,(bl vs (f v hp n).2.1 (f v hp n).2.2).2))
  (hf:∀ {X:Ctx},WRel X G→∀ {c:AV} {u:Value} {F:Nat→Prop},RelA X c u F→Free X G F→Bound X G (f c X.hp X.nx) u F):∀ {cs:List AV} {us:List Value} {fs:Nat→Nat→Prop} {X:Ctx},WRel X G→Apart X G cs us fs →
  BoundL X G (bl cs X.hp X.nx) us (fun b=>∃ j,j < cs.length∧fs j b)
 | [],[],fs,X,hw,_=>by rw [h0];exact ⟨X,rfl,rfl,hw,.refl X,(Foot.refl X).mono fun _ h=>h.elim,rfl,fun j c u h=>by simp at h⟩
 | [],_ :: _,_,_,_,h=>by cases h.len
 | _ :: _,[],_,_,_,h=>by cases h.len
 | c :: cs,u :: us,fs,X,hw,ha=>by
  rw [h1]
  obtain ⟨r0,f0,at',dj⟩:=ha.head
  obtain ⟨Y,e1,e2,k1,k2,k3,k4⟩:=hf hw r0 f0
  have ih:=binds_rel h0 h1 hf k1 (at'.step k2 k3 fun j b hj h=>dj j b hj h)
  rw [e1,e2] at ih
  obtain ⟨Z,i1,i2,i3,i4,i5,i6,i7⟩:=ih
  refine ⟨Z,i1,i2,i3,k2.trans i4,(k3.trans i5).mono fun b h=>?_,by simp [i6],fun j c' u' hj hu=>?_⟩
  ·rcases h with h | ⟨j,hj,h⟩
   ·exact ⟨0,by simp,h⟩
   ·exact ⟨j+1,by simpa using hj,h⟩
  ·cases j with
   | zero=>simp at hj hu;subst hj;subst hu;exact k4.ext i4.ext
   | succ j=>exact i7 j c' u' (by simpa using hj) (by simpa using hu)
theorem bindC_rel (hw:WRel X G) {cs:List AV} {us:List Value} {fs:Nat→Nat→Prop} (h:Apart X G cs us fs):BoundL X G (bindC cs X.hp X.nx) us (fun b=>∃ j,j < cs.length∧fs j b) :=
 binds_rel (f:=bind0) (bl:=bindC) (fun _ _=>rfl) (fun _ _ _ _=>rfl) (fun hw _ _ _ h hF=>bind0_rel hw h hF) hw h
theorem plain_apart {cs:List AV} {us:List Value} (hl:cs.length=us.length) (hr:∀ (j:Nat) (c:AV) (u:Value),cs[j]?=some c→us[j]?=some u→RelV X c u):Apart X G cs us (fun _ _=>False) :=
 ⟨hl,fun j c u hj hu=>.pl _ _ _ (hr j c u hj hu) (fun _ h=>h),fun _ _ _ _ _ h=>h.elim,fun _ _=>.empty⟩
theorem agg_apart {cs:List AV} {vs:Array Value} {fs:Nat→Nat→Prop} {F:Nat→Prop} (hl:cs.length=vs.size) (h:∀ (j:Nat) (c:AV) (u:Value),cs[j]?=some c→vs[j]?=some u→RelA X c u (fs j))
  (hd:∀ j k b,j < cs.length→k < cs.length→fs j b→fs k b→j=k) (hF:∀ j b,j < cs.length→fs j b→F b) (hf:Free X G F):Apart X G cs vs.toList fs :=
 ⟨by simpa using hl,fun j c u hj hu=>h j c u hj (by simpa using hu),hd,fun j hj=>hf.sub fun b hb=>hF j b hj hb⟩
theorem BoundL.agg {r:List AV × Hp × Nat} {us:Array Value} {F F':Nat→Prop} (h:BoundL X G r us.toList F) (hF:∀ b,F b→F' b):Bound X G (.agg r.1,r.2) (.agg us) F':=by
 obtain ⟨Y,h1,h2,h3,h4,h5,h6,h7⟩:=h
 exact ⟨Y,h1,h2,h3,h4,h5.mono hF,.agg _ us (by simpa using h6) fun j c u hj hu=>h7 j c u hj (by simpa using hu)⟩
theorem BoundL.tup {r:List AV × Hp × Nat} {us:Array Value} {F F':Nat→Prop} (h:BoundL X G r us.toList F) (hF:∀ b,F b→F' b):Bound X G (.tup r.1,r.2) (.tuple us) F':=by
 obtain ⟨Y,h1,h2,h3,h4,h5,h6,h7⟩:=h
 exact ⟨Y,h1,h2,h3,h4,h5.mono hF,.tup _ us (by simpa using h6) fun j c u hj hu=>h7 j c u hj (by simpa using hu)⟩
theorem bind1_rel (hw:WRel X G) {c:AV} {u:Value} {F:Nat→Prop} (h:RelA X c u F) (hF:Free X G F):Bound X G (bind1 c X.hp X.nx) u F:=by
 cases h with
 | agg cs vs fs F hl h hd hF'=>exact (bindC_rel hw (agg_apart hl h hd (fun j b hj hb=>(hF' b).2 ⟨j,hj,hb⟩) hF)).agg fun b hb=>(hF' b).2 hb
 | own q d v F h=>exact bind0_rel hw (.own q d u F h) hF
 | fn f cs vs fs F hl h hd hF'=>exact bind0_rel hw (.fn f cs vs fs F hl h hd hF') hF
 | tup cs vs fs F hl h hd hF'=>exact bind0_rel hw (.tup cs vs fs F hl h hd hF') hF
 | pb cs b t arr fs F hb hl h hd hnb hF' hsf=>exact bind0_rel hw (.pb cs b t arr fs F hb hl h hd hnb hF' hsf) hF
 | pl c v F h hF' =>
  by_cases hc:∃ cs,c=.agg cs
  ·obtain ⟨cs,rfl⟩:=hc
   cases h with
   | agg cs vs hl hr=>exact (bindC_rel hw (plain_apart (us:=vs.toList) (by simpa using hl) fun j c u hj hu=>hr j c u hj (by simpa using hu))).agg fun b ⟨_,_,hb⟩=>hb.elim
  ·have e:bind1 c X.hp X.nx=bind0 c X.hp X.nx:=by cases c<;>first | rfl | exact absurd ⟨_,rfl⟩ hc
   rw [e]
   exact bind0_rel hw (.pl c u F h hF') hF
theorem bindL_rel (hw:WRel X G) {cs:List AV} {us:List Value} {fs:Nat→Nat→Prop} (h:Apart X G cs us fs):BoundL X G (bindL cs X.hp X.nx) us (fun b=>∃ j,j < cs.length∧fs j b) :=
 binds_rel (f:=bind1) (bl:=bindL) (fun _ _=>rfl) (fun _ _ _ _=>rfl) (fun hw _ _ _ h hF=>bind1_rel hw h hF) hw h
theorem bind1_slb {c:AV} {hp:Hp} {n:Nat} {T:TypeId} (h:(bind1 c hp n).1=.slb T):c=.slb T:=by
 cases c with
 | slb U=>cases h;rfl
 | fn f fs cs=>cases fs<;>cases h
 | _=>cases h
theorem bind1_slf {c:AV} {hp:Hp} {n i:Nat} {T:TypeId} (h:(bind1 c hp n).1=.slf i T):c=.slf i T:=by
 cases c with
 | slf k U=>cases h;rfl
 | fn f fs cs=>cases fs<;>cases h
 | _=>cases h
theorem bindL_get {x:AV} (hx:∀ (c:AV) (hp:Hp) (n:Nat),(bind1 c hp n).1=x→c=x):∀ {cs:List AV} {hp:Hp} {n j:Nat},(bindL cs hp n).1[j]?=some x→cs[j]?=some x
 | [],_,_,_,h=>by simp [bindL] at h
 | c :: cs,hp,n,0,h=>by
  have h':(bind1 c hp n).1=x:=by simpa [bindL] using h
  rw [hx _ _ _ h'];rfl
 | c :: cs,hp,n,j+1,h=>by
  have h':(bindL cs (bind1 c hp n).2.1 (bind1 c hp n).2.2).1[j]?=some x:=by simpa [bindL] using h
  simpa using bindL_get hx h'
theorem bindL_slb {cs:List AV} {hp:Hp} {n j:Nat} {T:TypeId} (h:(bindL cs hp n).1[j]?=some (.slb T)):cs[j]?=some (.slb T):=bindL_get (fun _ _ _ h=>bind1_slb h) h
theorem bindL_slf {cs:List AV} {hp:Hp} {n j i:Nat} {T:TypeId} (h:(bindL cs hp n).1[j]?=some (.slf i T)):cs[j]?=some (.slf i T):=bindL_get (fun _ _ _ h=>bind1_slf h) h
theorem slo_rel {cs:List AV} {arr:Array Value} {hp:Hp} {n id b j:Nat} {c:AV} {u:Value} (hid:id < X.nx) (hob:(X.ob id).v=.pointer (some ⟨b,0,none⟩))
  {t:TypeId} (hsf:∀ (j:Nat) (T:TypeId) (u:Value),cs[j]?=some (.slb T)→arr[j]?=some u→(u=.pointer none∨u=.pointer (some ⟨b,0,none⟩))∧t=T)
  (h7:∀ c:AV,(bindL cs hp n).1[j]?=some c→RelV X c u) (hj:((bindL cs hp n).1.map (slo id))[j]?=some c) (hu:arr[j]?=some u):RelV X c u:=by
 rw [List.getElem?_map] at hj
 cases hc:(bindL cs hp n).1[j]? with
 | none=>rw [hc] at hj;cases hj
 | some d =>
  rw [hc] at hj
  cases hj
  have hr:=h7 d hc
  by_cases hd:∃ T,d=.slb T
  ·obtain ⟨T,rfl⟩:=hd
   exact .slf id T u hid ⟨b,hob,(hsf j T u (bindL_slb hc) hu).1⟩
  ·by_cases hs:∃ i T,d=.slf i T
   ·obtain ⟨i,T,rfl⟩:=hs
    exact .any _
   ·have e:slo id d=d:=by cases d<;>first | rfl | exact absurd ⟨_,rfl⟩ hd | exact absurd ⟨_,_,rfl⟩ hs
    rw [e]
    exact hr
theorem slo_tag {cs:List AV} {arr:Array Value} {hp:Hp} {n id b:Nat} {t:TypeId} (hl:cs.length=arr.size)
  (hsf:∀ (j:Nat) (T:TypeId) (u:Value),cs[j]?=some (.slb T)→arr[j]?=some u→(u=.pointer none∨u=.pointer (some ⟨b,0,none⟩))∧t=T):TagC ((bindL cs hp n).1.map (slo id)) t:=by
 intro j i T hj
 rw [List.getElem?_map] at hj
 cases hc:(bindL cs hp n).1[j]? with
 | none=>rw [hc] at hj;cases hj
 | some d =>
  rw [hc] at hj
  cases d with
  | slb U =>
   cases hj
   have h1:=bindL_slb hc
   have hlt:j < arr.size:=by rw [← hl];exact (List.getElem?_eq_some_iff.1 h1).1
   exact (hsf j T _ h1 (Array.getElem?_eq_getElem hlt)).2
  | _=>cases hj
theorem bindV_rel (hw:WRel X G) {c:AV} {u:Value} {F:Nat→Prop} (h:RelA X c u F) (hF:Free X G F):Bound X G (bindV c X.hp X.nx) u F:=by
 cases h with
 | tup cs vs fs F hl h hd hF'=>exact (bindL_rel hw (agg_apart hl h hd (fun j b hj hb=>(hF' b).2 ⟨j,hj,hb⟩) hF)).tup fun b hb=>(hF' b).2 hb
 | own q d v F h=>exact bind1_rel hw (.own q d u F h) hF
 | fn f cs vs fs F hl h hd hF'=>exact bind1_rel hw (.fn f cs vs fs F hl h hd hF') hF
 | agg cs vs fs F hl h hd hF'=>exact bind1_rel hw (.agg cs vs fs F hl h hd hF') hF
 | pb cs b t arr fs F hb hl h hd hnb hF' hsf=>exact bind1_rel hw (.pb cs b t arr fs F hb hl h hd hnb hF' hsf) hF
 | pl c v F h hF' =>
  by_cases hc:∃ cs,c=.tup cs
  ·obtain ⟨cs,rfl⟩:=hc
   cases h with
   | tup cs vs hl hr=>exact (bindL_rel hw (plain_apart (us:=vs.toList) (by simpa using hl) fun j c u hj hu=>hr j c u hj (by simpa using hu))).tup fun b ⟨_,_,hb⟩=>hb.elim
  ·have e:bindV c X.hp X.nx=bind1 c X.hp X.nx:=by cases c<;>first | rfl | exact absurd ⟨_,rfl⟩ hc
   rw [e]
   exact bind1_rel hw (.pl c u F h hF') hF
end
end Go.Ab
namespace Go.Ab
open Go
variable [GI]
section
variable {P:Program} {E:Env} {X Y:Ctx} {G:Beg} {o:Oper} {a:Act}
theorem out0_rel {c:AV} {u:Value} {F:Nat→Prop} (h:RelA X c u F) {Rc:Nat→Prop} (hR:∀ b,X.R b→Rc b):∃ F',(∀ b,F' b→F b)∧RelA (ctx0 X.ety X.w Rc) (out0 c) u F':=by
 have any:∀ {v:Value},∃ F',(∀ b,F' b→F b)∧RelA (ctx0 X.ety X.w Rc) .any v F':=⟨fun _=>False,fun _ h=>h.elim,.pl _ _ _ (.any _) (fun _ h=>h)⟩
 have pl:∀ {c:AV} {v:Value},RelV (ctx0 X.ety X.w Rc) c v→∃ F',(∀ b,F' b→F b)∧RelA (ctx0 X.ety X.w Rc) c v F':=fun h=>⟨fun _=>False,fun _ h=>h.elim,.pl _ _ _ h (fun _ h=>h)⟩
 cases h with
 | own q d v F h=>exact ⟨F,fun _ h=>h,.own q d u F (h.mono hR)⟩
 | pl c v F h hF =>
  cases h with
  | int k n=>exact pl (.int k n)
  | u8 b=>exact pl (.u8 b)
  | bool b=>exact pl (.bool b)
  | str l=>exact pl (.str l)
  | val v=>exact pl (.val _)
  | nilS=>exact pl .nilS
  | dat d v h=>exact pl (.dat d u (h.mono hR))
  | dep d i off g o h0 h1 hRg h=>exact pl (.dep d i off g o h0 h1 (hR g hRg) fun j cd hj=>by obtain ⟨u,h1,h2⟩:=h j cd hj;exact ⟨u,h1,h2.mono hR⟩)
  | slb T v=>exact pl (.slb T _)
  | _=>exact any
 | _=>exact any
theorem outs_rel {f:AV→AV} (hf:∀ {c:AV} {u:Value} {F:Nat→Prop},RelA X c u F→∀ {Rc:Nat→Prop},(∀ b,X.R b→Rc b)→∃ F',(∀ b,F' b→F b)∧RelA (ctx0 X.ety X.w Rc) (f c) u F')
  {cs:List AV} {us:List Value} {fs:Nat→Nat→Prop} (hl:cs.length=us.length) (h:∀ (j:Nat) (c:AV) (u:Value),cs[j]?=some c→us[j]?=some u→RelA X c u (fs j)) {Rc:Nat→Prop} (hR:∀ b,X.R b→Rc b) :
  ∃ fs':Nat→Nat→Prop,(∀ j b,fs' j b→fs j b)∧∀ (j:Nat) (c:AV) (u:Value),(cs.map f)[j]?=some c→us[j]?=some u→RelA (ctx0 X.ety X.w Rc) c u (fs' j):=by
 have key:∀ j,∃ F':Nat→Prop,(∀ b,F' b→fs j b)∧∀ (c:AV) (u:Value),(cs.map f)[j]?=some c→us[j]?=some u→RelA (ctx0 X.ety X.w Rc) c u F':=by
  intro j
  by_cases hj:j < cs.length
  ·obtain ⟨F',h1,h2⟩:=hf (h j cs[j] (us[j]'(by omega)) (List.getElem?_eq_getElem hj) (List.getElem?_eq_getElem (by omega))) hR
   refine ⟨F',h1,fun c u hc hu=>?_⟩
   rw [List.getElem?_map,List.getElem?_eq_getElem hj] at hc
   rw [List.getElem?_eq_getElem (by omega)] at hu
   cases hc
   cases hu
   exact h2
  ·refine ⟨fun _=>False,fun _ h=>h.elim,fun c u hc=>?_⟩
   rw [List.getElem?_map,List.getElem?_eq_none (by omega)] at hc
   cases hc
 exact ⟨fun j=>(key j).choose,fun j=>(key j).choose_spec.1,fun j=>(key j).choose_spec.2⟩
theorem out1_rel {c:AV} {u:Value} {F:Nat→Prop} (h:RelA X c u F) {Rc:Nat→Prop} (hR:∀ b,X.R b→Rc b):∃ F',(∀ b,F' b→F b)∧RelA (ctx0 X.ety X.w Rc) (out1 c) u F':=by
 by_cases hc:∃ cs,c=.agg cs
 ·obtain ⟨cs,rfl⟩:=hc
  cases h with
  | agg cs vs fs F hl h hd hF =>
   obtain ⟨fs',h1,h2⟩:=outs_rel (us:=vs.toList) (fun h _ hR=>out0_rel h hR) (by simpa using hl) (fun j c u hj hu=>h j c u hj (by simpa using hu)) hR
   refine ⟨fun b=>∃ j,j < cs.length∧fs' j b,fun b ⟨j,hj,hb⟩=>(hF b).2 ⟨j,hj,h1 j b hb⟩,?_⟩
   exact .agg _ vs fs' _ (by simpa using hl) (fun j c u hj hu=>h2 j c u hj (by simpa using hu)) (fun j k b hj hk e1 e2=>hd j k b (by simpa using hj) (by simpa using hk) (h1 j b e1) (h1 k b e2)) (fun b=>by simp)
  | pl c v F h hF =>
   cases h with
   | agg cs vs hl h =>
    obtain ⟨fs',h1,h2⟩:=outs_rel (fs:=fun _ _=>False) (us:=vs.toList) (fun h _ hR=>out0_rel h hR) (by simpa using hl) (fun j c u hj hu=>.pl _ _ _ (h j c u hj (by simpa using hu)) fun _ h=>h) hR
    refine ⟨fun _=>False,fun _ h=>h.elim,?_⟩
    exact .agg _ vs fs' _ (by simpa using hl) (fun j c u hj hu=>h2 j c u hj (by simpa using hu)) (fun j k b _ _ e1 _=>(h1 j b e1).elim) (fun b=>⟨fun h=>h.elim,fun ⟨j,_,hb⟩=>h1 j b hb⟩)
 ·have e:out1 c=out0 c:=by cases c<;>first | rfl | exact absurd ⟨_,rfl⟩ hc
  rw [e]
  exact out0_rel h hR
theorem sfo_rel {id:Nat} {c:AV} {u:Value} {F:Nat→Prop} (h:RelA X c u F) {Rc:Nat→Prop} (hR:∀ b,X.R b→Rc b):∃ F',(∀ b,F' b→F b)∧RelA (ctx0 X.ety X.w Rc) (out1 (sfo id c)) u F':=by
 have pl:∀ {c:AV},RelV (ctx0 X.ety X.w Rc) c u→∃ F':Nat→Prop,(∀ b,F' b→F b)∧RelA (ctx0 X.ety X.w Rc) c u F':=fun h=>⟨fun _=>False,fun _ h=>h.elim,.pl _ _ _ h (fun _ h=>h)⟩
 cases c with
 | slf j T =>
  show ∃ F',(∀ b,F' b→F b)∧RelA (ctx0 X.ety X.w Rc) (out1 (if j=id then .slb T else .any)) u F'
  split
  ·exact pl (.slb T _)
  ·exact pl (.any _)
 | slb T=>exact pl (.any _)
 | _=>exact out1_rel h hR
theorem take1_slf {c:AV} {hp:Hp} {i:Nat} {T:TypeId} (h:(take1 c hp).1=.slf i T):c=.slf i T:=by
 cases c with
 | slf k U=>cases h;rfl
 | row k =>
  change (take0 (.row k) hp).1=.slf i T at h
  unfold take0 at h
  simp only at h
  split at h<;>cases h
 | _=>cases h
theorem takeL_slf:∀ {cs:List AV} {hp:Hp} {j i:Nat} {T:TypeId},(takeL cs hp).1[j]?=some (.slf i T)→cs[j]?=some (.slf i T)
 | [],_,_,_,_,h=>by simp [takeL] at h
 | c :: cs,hp,0,i,T,h=>by
  have h':(take1 c hp).1=.slf i T:=by simpa [takeL] using h
  rw [take1_slf h'];rfl
 | c :: cs,hp,j+1,i,T,h=>by
  have h':(takeL cs (take1 c hp).2).1[j]?=some (.slf i T):=by simpa [takeL] using h
  simpa using takeL_slf h'
theorem sfo_slb {id:Nat} {d:AV} {T:TypeId} (h:out1 (sfo id d)=.slb T):d=.slf id T:=by
 cases d with
 | slf j U =>
  change out1 (if j=id then .slb U else .any)=.slb T at h
  split at h
  ·rename_i e;cases h;rw [e]
  ·cases h
 | _=>cases h
def PassJ (X:Ctx) (m:Md) (c:AV) (u:Value) (F:Nat→Prop):Prop :=
 match m with
 | .rd=>RelV X c u∧∀ b,¬ F b
 | _=>∀ Rc:Nat→Prop,(∀ b,X.R b→Rc b)→∃ F',(∀ b,F' b→F b)∧RelA (ctx0 X.ety X.w Rc) c u F'
theorem PassJ.step {m:Md} {c:AV} {u:Value} {F:Nat→Prop} (h:PassJ X m c u F) (s:Same X Y):PassJ Y m c u F:=by
 cases m with
 | rd=>exact ⟨h.1.ext s.ext,h.2⟩
 | tk=>intro Rc hR;rw [s.ext.ety,s.w];exact h Rc (by rw [← s.R];exact hR)
 | io=>intro Rc hR;rw [s.ext.ety,s.w];exact h Rc (by rw [← s.R];exact hR)
def Passed (X:Ctx) (G:Beg) (m:Md) (r:AV × Hp) (u:Value):Prop :=
 ∃ F,WRel { X with hp:=r.2 } G∧Same X { X with hp:=r.2 }∧Foot X { X with hp:=r.2 } (fun _=>False)∧PassJ { X with hp:=r.2 } m r.1 u F∧Free { X with hp:=r.2 } G F∧∀ b,F b→∃ id,live X id∧(X.ob id).F b
theorem pass_any (hw:WRel X G) {m:Md} {u:Value}:Passed X G m (.any,X.hp) u :=
 ⟨fun _=>False,hw,.refl X,.refl X,by cases m<;>first | exact ⟨.any _,fun _ h=>h⟩ | exact fun _ _=>⟨fun _=>False,fun _ h=>h,.pl _ _ _ (.any _) (fun _ h=>h)⟩,.empty,fun _ h=>h.elim⟩
theorem pass_take (hw:WRel X G) {m:Md} (hm:m≠.rd) {c:AV} {u:Value} (h:RelV X c u):Passed X G m (out1 (take1 c X.hp).1,(take1 c X.hp).2) u:=by
 obtain ⟨F,h1,h2,h3,h4,h5,h6⟩:=take1_rel hw h
 refine ⟨F,h1,h2,h3,?_,h5,h6⟩
 cases m with
 | rd=>exact absurd rfl hm
 | tk=>exact fun Rc hR=>out1_rel h4 hR
 | io=>exact fun Rc hR=>out1_rel h4 hR
theorem box_live {id:Nat} {t:TypeId} {cs:List AV} (hb:hgt X.hp id=.box t cs):live X id:=by unfold live;rw [hb];simp
def PassedB (X:Ctx) (G:Beg) (r:AV × Hp) (u:Value):Prop :=
 ∃ F,WRel { X with hp:=r.2 } G∧Same X { X with hp:=r.2 }∧Foot X { X with hp:=r.2 } (fun _=>False)∧(∀ Rc:Nat→Prop,(∀ b,X.R b→Rc b)→∃ F',(∀ b,F' b→F b)∧RelA (ctx0 X.ety X.w Rc) r.1 u F')∧Free { X with hp:=r.2 } G F∧∀ b,F b→∃ id,live X id∧(X.ob id).F b
theorem PassedB.passed {r:AV × Hp} {u:Value} (h:PassedB X G r u) {m:Md} (hm:m≠.rd):Passed X G m r u:=by
 obtain ⟨F,h1,h2,h3,h4,h5,h6⟩:=h
 refine ⟨F,h1,h2,h3,?_,h5,h6⟩
 cases m with
 | rd=>exact absurd rfl hm
 | tk=>exact h4
 | io=>exact h4
theorem passedB_any (hw:WRel X G) {u:Value}:PassedB X G (.any,X.hp) u :=
 ⟨fun _=>False,hw,.refl X,.refl X,fun _ _=>⟨fun _=>False,fun _ h=>h,.pl _ _ _ (.any _) (fun _ h=>h)⟩,.empty,fun _ h=>h.elim⟩
theorem passedB_take (hw:WRel X G) {c:AV} {u:Value} (h:RelV X c u):PassedB X G (out1 (take1 c X.hp).1,(take1 c X.hp).2) u:=by
 obtain ⟨F,h1,h2,h3,h4,h5,h6⟩:=take1_rel hw h
 exact ⟨F,h1,h2,h3,fun Rc hR=>out1_rel h4 hR,h5,h6⟩
theorem passB_rel (hw:WRel X G) {c:AV} {u:Value} (h:RelV X c u):PassedB X G (passB c X.hp) u:=by
 unfold passB
 split
 ·rename_i id
  split
  ·rename_i t cs hb
   obtain ⟨g,arr,t',hv,hob,hg,hsz,hFb,hc,htg⟩:=box_cells hw h hb
   have hl:=box_live hb
   have hk:=kill_rel hw id
   obtain ⟨fs,k1,k2,k3,k4,k5⟩:=takeL_rel (X:=killC X id) hk (cs:=cs) (us:=arr.toList) (by simp [hsz]) (fun j c u hj hu=>by
    obtain ⟨u',h1,_,h2⟩:=hc j c hj
    have:u=u':=by rw [← Array.getElem?_toList,hu] at h1;simpa using h1
    subst this
    exact h2.ext (kill_same id).ext)
   have hfree:=kill_free hw hl
   have hcs:(takeL cs (hput id .dead X.hp)).1.length=cs.length:=by rw [k4.len];simp [hsz]
   refine ⟨fun b=>b=g∨∃ j,j < cs.length∧fs j b,k1,(kill_same id).trans k2,((kill_foot id).trans k3).mono (fun b h=>h.elim (fun h=>h) (fun h=>h)),fun Rc hR=>?_,?_,fun b hb'=>?_⟩
   ·obtain ⟨fs',e1,e2⟩:=outs_rel (f:=fun c=>out1 (sfo id c)) (fun h _ hR=>sfo_rel h hR) k4.len k4.rel hR
    refine ⟨fun b=>b=g∨∃ j,j < cs.length∧fs' j b,fun b hb'=>hb'.imp_right fun ⟨j,hj,hb'⟩=>⟨j,hj,e1 j b hb'⟩,?_⟩
    rw [hv]
    refine .pb _ g t' arr fs' _ hg (by rw [List.length_map,hcs,hsz]) (fun j c u hj hu=>e2 j c u hj (by simpa using hu)) (fun j k n hj hk' n1 n2=>k4.dis j k n (by simpa using hj) (by simpa using hk') (e1 j n n1) (e1 k n n2)) (fun j hj n1=>?_) (fun n=>by simp [hcs]) (fun j T u hj hu=>?_)
    ·obtain ⟨id',h1,h2⟩:=k5 j g (by simpa using hj) (e1 j g n1)
     exact hfree.nl id' g h1 h2 ((hFb g).2 rfl)
    ·rw [List.getElem?_map] at hj
     cases hcj:(takeL cs (hput id .dead X.hp)).1[j]? with
     | none=>rw [hcj] at hj;cases hj
     | some d =>
      rw [hcj] at hj
      have hd:out1 (sfo id d)=.slb T:=by simpa using hj
      rw [sfo_slb hd] at hcj
      have hr:=k4.rel j _ u hcj (by simpa using hu)
      cases hr with
      | pl c v F h hF =>
       cases h with
       | slf id T v hid' h =>
        obtain ⟨b',q1,q2⟩:=h
        have q1':(X.ob id).v=.pointer (some ⟨b',0,none⟩):=q1
        rw [hob] at q1'
        cases q1'
        exact ⟨q2,htg j id T (takeL_slf hcj)⟩
   ·have h1:Free { killC X id with hp:=(takeL cs (killC X id).hp).2 } G (X.ob id).F:=hfree.foot k3 k2.w k2.R fun _ _ h=>h
    refine ⟨fun b hb'=>?_,fun i b l1 l2 hb'=>?_,fun b hb'=>?_,fun b hb'=>?_⟩
    ·rcases hb' with rfl | ⟨j,hj,hb'⟩
     ·exact h1.nr b ((hFb b).2 rfl)
     ·exact (k4.free j (by rw [show (takeL cs (killC X id).hp).1.length=cs.length from hcs];exact hj)).nr b hb'
    ·rcases hb' with rfl | ⟨j,hj,hb'⟩
     ·exact h1.nl i b l1 l2 ((hFb b).2 rfl)
     ·exact (k4.free j (by rw [show (takeL cs (killC X id).hp).1.length=cs.length from hcs];exact hj)).nl i b l1 l2 hb'
    ·rcases hb' with rfl | ⟨j,hj,hb'⟩
     ·exact h1.lt b ((hFb b).2 rfl)
     ·exact (k4.free j (by rw [show (takeL cs (killC X id).hp).1.length=cs.length from hcs];exact hj)).lt b hb'
    ·rcases hb' with rfl | ⟨j,hj,hb'⟩
     ·exact h1.ok b ((hFb b).2 rfl)
     ·exact (k4.free j (by rw [show (takeL cs (killC X id).hp).1.length=cs.length from hcs];exact hj)).ok b hb'
   ·rcases hb' with rfl | ⟨j,hj,hb'⟩
    ·exact ⟨id,hl,(hFb b).2 rfl⟩
    ·obtain ⟨id',h1,h2⟩:=k5 j b (by rw [show (takeL cs (killC X id).hp).1.length=cs.length from hcs];exact hj) hb'
     exact ⟨id',(live_kill h1).1,h2⟩
  ·exact passedB_any hw
 ·exact passedB_take hw h
def PassedBL (X:Ctx) (G:Beg) (r:List AV × Hp) (us:List Value):Prop :=
 ∃ fs:Nat→Nat→Prop,WRel { X with hp:=r.2 } G∧Same X { X with hp:=r.2 }∧Foot X { X with hp:=r.2 } (fun _=>False)∧r.1.length=us.length ∧
  (∀ (j:Nat) (c:AV) (u:Value),r.1[j]?=some c→us[j]?=some u→∀ Rc:Nat→Prop,(∀ b,X.R b→Rc b)→∃ F',(∀ b,F' b→fs j b)∧RelA (ctx0 X.ety X.w Rc) c u F') ∧
  (∀ j k b,j < us.length→k < us.length→fs j b→fs k b→j=k)∧(∀ j,j < us.length→Free { X with hp:=r.2 } G (fs j))∧∀ j b,j < us.length→fs j b→∃ id,live X id∧(X.ob id).F b
theorem passBL_rel:∀ {cs:List AV} {us:List Value} {X:Ctx},WRel X G→cs.length=us.length→(∀ (j:Nat) (c:AV) (u:Value),cs[j]?=some c→us[j]?=some u→RelV X c u)→PassedBL X G (passBL cs X.hp) us
 | [],[],X,hw,_,_=>⟨fun _ _=>False,hw,.refl X,.refl X,rfl,fun j c u h=>by simp [passBL] at h,fun j k b h=>absurd h (Nat.not_lt_zero _),fun j h=>absurd h (Nat.not_lt_zero _),fun j b h=>absurd h (Nat.not_lt_zero _)⟩
 | [],_ :: _,_,_,h,_=>by cases h
 | _ :: _,[],_,_,h,_=>by cases h
 | c :: cs,u :: us,X,hw,hl,hr=>by
  show PassedBL X G ((passB c X.hp).1 :: (passBL cs (passB c X.hp).2).1,(passBL cs (passB c X.hp).2).2) (u :: us)
  obtain ⟨F,h1,h2,h3,h4,h5,h6⟩:=passB_rel hw (hr 0 c u rfl rfl)
  have ih:=passBL_rel (cs:=cs) (us:=us) h1 (by simpa using hl) (fun j c u hj hu=>(hr (j+1) c u (by simpa using hj) (by simpa using hu)).ext h2.ext)
  generalize passB c X.hp=r at h1 h2 h3 h4 h5 h6 ih
  obtain ⟨rv,rh⟩:=r
  simp only at h1 h2 h3 h4 h5 h6 ih
  generalize hX1:({ X with hp:=rh }:Ctx)=X1 at h1 h2 h3 h5 ih
  generalize passBL cs rh=s at ih
  obtain ⟨sv,sh⟩:=s
  obtain ⟨fs,k1,k2,k3,k4,k5,k6,k7,k8⟩:=ih
  simp only at k1 k2 k3 k4 k5 k7
  have hY:({ X1 with hp:=sh }:Ctx)={ X with hp:=sh }:=by rw [← hX1]
  rw [hY] at k1 k2 k3 k7
  have hdis:∀ j b,j < us.length→fs j b→¬ F b:=fun j b hj hf hb=>by
   obtain ⟨id,h7,h8⟩:=k8 j b hj hf
   exact h5.nl id b h7 h8 hb
  refine ⟨consF F fs,k1,h2.trans k2,(h3.trans k3).mono (fun b h=>h.elim (fun h=>h) (fun h=>h)),by simp [k4],fun j c' u' hj hu Rc hR=>?_,fun j k b hj hk e1 e2=>?_,fun j hj=>?_,fun j b hj hf=>?_⟩
  ·cases j with
   | zero=>simp at hj hu;subst hj;subst hu;exact h4 Rc hR
   | succ j =>
    have:=k5 j c' u' (by simpa using hj) (by simpa using hu) Rc (by rw [h2.R];exact hR)
    rw [h2.ext.ety,h2.w] at this
    exact this
  ·cases j with
   | zero=>cases k with
    | zero=>rfl
    | succ k=>exact absurd e1 (hdis k b (by simpa using hk) e2)
   | succ j=>cases k with
    | zero=>exact absurd e2 (hdis j b (by simpa using hj) e1)
    | succ k=>exact congrArg (·+1) (k6 j k b (by simpa using hj) (by simpa using hk) e1 e2)
  ·cases j with
   | zero=>exact h5.foot k3 k2.w k2.R fun _ _ h=>h
   | succ j=>exact k7 j (by simpa using hj)
  ·cases j with
   | zero=>exact h6 b hf
   | succ j =>
    obtain ⟨id,h7,h8⟩:=k8 j b (by simpa using hj) hf
    exact (h3 id b h7 h8).resolve_right (fun h=>h)
theorem passFn_rel (hw:WRel X G) {f:FuncId} {cs:List AV} {u:Value} (h:RelV X (.fn f [] cs) u):PassedB X G (.fn f [] (passBL cs X.hp).1,(passBL cs X.hp).2) u:=by
 obtain ⟨cv,rfl,hl,hr⟩:=fn_nil h
 obtain ⟨fs,k1,k2,k3,k4,k5,k6,k7,k8⟩:=passBL_rel (us:=cv.toList) hw (by simpa using hl) (fun j c u hj hu=>hr j c u hj (by simpa using hu))
 generalize passBL cs X.hp=s at k1 k2 k3 k4 k5 k7
 obtain ⟨sv,sh⟩:=s
 simp only at k1 k2 k3 k4 k5 k7
 have hlen:cv.toList.length=sv.length:=k4.symm
 refine ⟨fun b=>∃ j,j < sv.length∧fs j b,k1,k2,k3,fun Rc hR=>?_,⟨fun b ⟨j,hj,hb⟩=>(k7 j (by omega)).nr b hb,fun i b h1 h2 ⟨j,hj,hb⟩=>(k7 j (by omega)).nl i b h1 h2 hb,fun b ⟨j,hj,hb⟩=>(k7 j (by omega)).lt b hb,fun b ⟨j,hj,hb⟩=>(k7 j (by omega)).ok b hb⟩,fun b ⟨j,hj,hb⟩=>k8 j b (by omega) hb⟩
 have key:∀ j,∃ F':Nat→Prop,(∀ b,F' b→fs j b)∧∀ (c:AV) (u:Value),sv[j]?=some c→cv[j]?=some u→RelA (ctx0 X.ety X.w Rc) c u F':=by
  intro j
  by_cases hj:j < sv.length
  ·have hjc:j < cv.toList.length:=by omega
   obtain ⟨F',h1,h2⟩:=k5 j sv[j] cv.toList[j] (List.getElem?_eq_getElem hj) (List.getElem?_eq_getElem hjc) Rc hR
   refine ⟨F',h1,fun c u hc hu=>?_⟩
   rw [List.getElem?_eq_getElem hj] at hc
   have hu':cv.toList[j]?=some u:=by simpa using hu
   rw [List.getElem?_eq_getElem hjc] at hu'
   cases hc
   cases hu'
   exact h2
  ·exact ⟨fun _=>False,fun _ h=>h.elim,fun c u hc=>by rw [List.getElem?_eq_none (by omega)] at hc;cases hc⟩
 refine ⟨fun b=>∃ j,j < sv.length∧(key j).choose b,fun b ⟨j,hj,hb⟩=>⟨j,hj,(key j).choose_spec.1 b hb⟩,?_⟩
 exact .fn f sv cv (fun j=>(key j).choose) _ (by simpa using k4) (fun j c u hj hu=>(key j).choose_spec.2 c u hj hu) (fun j k b hj hk e1 e2=>k6 j k b (by omega) (by omega) ((key j).choose_spec.1 b e1) ((key k).choose_spec.1 b e2)) (fun b=>Iff.rfl)
theorem pass1_rel (hw:WRel X G) {m:Md} (hm:m≠.rd) {p:PS} {c:AV} {u:Value} (h:RelV X c u):Passed X G m (pass1 m p c X.hp) u:=by
 unfold pass1
 split
 ·split
  ·exact (passB_rel hw h).passed hm
  ·exact pass_any hw
 ·split
  ·exact (passFn_rel hw h).passed hm
  ·exact pass_any hw
 ·split
  ·rename_i k
   cases h
   refine ⟨fun _=>False,hw,.refl X,.refl X,?_,.empty,fun _ h=>h.elim⟩
   have ho:∀ (w:World) (R:Nat→Prop),RelA (ctx0 X.ety w R) (.own true ⟨k,[]⟩) (.slice none 0 0) (fun _=>False):=fun w R=>.own _ _ _ _ (by
    show Own w (.sl (X.ety k) k.esz []) _ _
    exact .sl _ _ [] _ [] (fun _ _=>False) _ ⟨by simp,.inl ⟨rfl,rfl⟩⟩ (fun r h=>by simp at h) (fun k cd u h=>by simp at h) (fun k b h=>by simp at h) (fun k k' b h=>by simp at h) (fun b=>by simp [Value.ownBlock]))
   cases m with
   | rd=>exact absurd rfl hm
   | tk=>exact fun Rc _=>⟨fun _=>False,fun _ h=>h,ho _ _⟩
   | io=>exact fun Rc _=>⟨fun _=>False,fun _ h=>h,ho _ _⟩
  ·cases h
   refine ⟨fun _=>False,hw,.refl X,.refl X,?_,.empty,fun _ h=>h.elim⟩
   cases m with
   | rd=>exact absurd rfl hm
   | tk=>exact fun Rc _=>⟨fun _=>False,fun _ h=>h,.pl _ _ _ .nilS (fun _ h=>h)⟩
   | io=>exact fun Rc _=>⟨fun _=>False,fun _ h=>h,.pl _ _ _ .nilS (fun _ h=>h)⟩
 ·exact pass_take hw hm h
def mdAt:List Md→List PS→List AV→Nat→Md
 | m :: _,_ :: _,_ :: _,0=>m
 | _ :: ms,_ :: ps,_ :: vs,j+1=>mdAt ms ps vs j
 | _,_,_,_=>.rd
structure PassL (X:Ctx) (G:Beg) (md:Nat→Md) (cs:List AV) (us:List Value) (fs:Nat→Nat→Prop):Prop where
 len:cs.length=us.length
 rel:∀ (j:Nat) (c:AV) (u:Value),cs[j]?=some c→us[j]?=some u→PassJ X (md j) c u (fs j)
 dis:∀ j k b,j < cs.length→k < cs.length→fs j b→fs k b→j=k
 free:∀ j,j < cs.length→Free X G (fs j)
theorem passT_rel:∀ {ms:List Md} {ps:List PS} {cs:List AV} {us:List Value} {X:Ctx},WRel X G→cs.length=us.length→(∀ (j:Nat) (c:AV) (u:Value),cs[j]?=some c→us[j]?=some u→RelV X c u) →
  ∃ fs,WRel { X with hp:=(passT ms ps cs X.hp).2 } G∧Same X { X with hp:=(passT ms ps cs X.hp).2 }∧Foot X { X with hp:=(passT ms ps cs X.hp).2 } (fun _=>False) ∧
   PassL { X with hp:=(passT ms ps cs X.hp).2 } G (mdAt ms ps cs) (passT ms ps cs X.hp).1 us fs∧∀ j b,j < cs.length→fs j b→∃ id,live X id∧(X.ob id).F b:=by
 have rest:∀ {cs:List AV} {us:List Value} {X:Ctx} {md:Nat→Md},WRel X G→cs.length=us.length→(∀ (j:Nat) (c:AV) (u:Value),cs[j]?=some c→us[j]?=some u→RelV X c u)→(∀ j,md j=.rd) →
   ∃ fs,WRel X G∧Same X X∧Foot X X (fun _=>False)∧PassL X G md cs us fs∧∀ j b,j < cs.length→fs j b→∃ id,live X id∧(X.ob id).F b :=
  fun hw hl hr hm=>⟨fun _ _=>False,hw,.refl _,.refl _,⟨hl,fun j c u hj hu=>by rw [hm];exact ⟨hr j c u hj hu,fun _ h=>h⟩,fun _ _ _ _ _ h=>h.elim,fun _ _=>.empty⟩,fun _ _ _ h=>h.elim⟩
 intro ms
 induction ms with
 | nil=>intro ps cs us X hw hl hr;exact rest hw hl hr (fun j=>rfl)
 | cons m ms ih =>
  intro ps cs us X hw hl hr
  cases ps with
  | nil=>exact rest hw hl hr (fun j=>rfl)
  | cons p ps =>
   cases cs with
   | nil=>exact rest hw hl hr (fun j=>rfl)
   | cons c cs =>
    cases us with
    | nil=>cases hl
    | cons u us =>
     have hu0:=hr 0 c u rfl rfl
     have hone:Passed X G m (match m with | .rd=>(c,X.hp) | m=>pass1 m p c X.hp) u:=by
      cases m with
      | rd=>exact ⟨fun _=>False,hw,.refl X,.refl X,⟨hu0,fun _ h=>h⟩,.empty,fun _ h=>h.elim⟩
      | tk=>exact pass1_rel hw (by simp) hu0
      | io=>exact pass1_rel hw (by simp) hu0
     have heq:passT (m :: ms) (p :: ps) (c :: cs) X.hp=((match m with | .rd=>(c,X.hp) | m=>pass1 m p c X.hp).1 :: (passT ms ps cs (match m with | .rd=>(c,X.hp) | m=>pass1 m p c X.hp).2).1,(passT ms ps cs (match m with | .rd=>(c,X.hp) | m=>pass1 m p c X.hp).2).2):=by cases m<;>rfl
     rw [heq]
     generalize (match m with | .rd=>(c,X.hp) | m=>pass1 m p c X.hp)=r at hone
     obtain ⟨F,h1,h2,h3,h4,h5,h6⟩:=hone
     obtain ⟨fs,k1,k2,k3,k4,k5⟩:=ih (ps:=ps) (cs:=cs) (us:=us) h1 (by simpa using hl) (fun j c u hj hu=>(hr (j+1) c u (by simpa using hj) (by simpa using hu)).ext h2.ext)
     have hlen:(passT ms ps cs r.2).1.length=cs.length:=by rw [k4.len];simpa using hl.symm
     have hdis:∀ j b,j < cs.length→fs j b→¬ F b:=fun j b hj hf hb=>by
      obtain ⟨id,h7,h8⟩:=k5 j b hj hf
      exact h5.nl id b h7 h8 hb
     refine ⟨consF F fs,k1,h2.trans k2,(h3.trans k3).mono (fun b h=>h.elim id id),⟨by simp [k4.len],fun j c' u' hj hu=>?_,fun j k b hj hk e1 e2=>?_,fun j hj=>?_⟩,fun j b hj hf=>?_⟩
     ·cases j with
      | zero=>simp at hj hu;subst hj;subst hu;exact h4.step k2
      | succ j=>exact k4.rel j c' u' (by simpa using hj) (by simpa using hu)
     ·cases j with
      | zero=>cases k with
       | zero=>rfl
       | succ k=>exact absurd e1 (hdis k b (by rw [← hlen];simpa using hk) e2)
      | succ j=>cases k with
       | zero=>exact absurd e2 (hdis j b (by rw [← hlen];simpa using hj) e1)
       | succ k=>exact congrArg (·+1) (k4.dis j k b (by simpa using hj) (by simpa using hk) e1 e2)
     ·cases j with
      | zero=>exact h5.foot k3 k2.w k2.R fun _ _ h=>h
      | succ j=>exact k4.free j (by simpa using hj)
     ·cases j with
      | zero=>exact h6 b hf
      | succ j =>
       obtain ⟨id,h7,h8⟩:=k5 j b (by simpa using hj) hf
       exact (h3 id b h7 h8).resolve_right (fun h=>h)
theorem passV_get:∀ {ms:List Md} {ps:List PS} {cs ts:List AV} {hp:Hp},ts.length=cs.length→(passV ms ps ts hp).length=ts.length∧∀ (j:Nat) (c:AV),(passV ms ps ts hp)[j]?=some c→∃ t p,ts[j]?=some t ∧
  c=match mdAt ms ps cs j with | .rd=>norm p (view hp t) | _=>t:=by
 have rest:∀ {ts:List AV} {hp:Hp},(ts.map (view hp)).length=ts.length∧∀ (j:Nat) (c:AV),(ts.map (view hp))[j]?=some c→∃ t p,ts[j]?=some t∧c=norm p (view hp t):=by
  refine fun {ts hp}=>⟨by simp,fun j c hj=>?_⟩
  rw [List.getElem?_map] at hj
  cases ht:ts[j]? with
  | none=>rw [ht] at hj;cases hj
  | some t=>rw [ht] at hj;cases hj;exact ⟨t,.sc,rfl,rfl⟩
 intro ms
 induction ms with
 | nil=>intro ps cs ts hp _;exact rest
 | cons m ms ih =>
  intro ps cs ts hp hl
  cases ps with
  | nil=>exact rest
  | cons p ps =>
   cases ts with
   | nil=>exact ⟨rfl,fun j c hj=>by simp [passV] at hj⟩
   | cons t ts =>
    cases cs with
    | nil=>cases hl
    | cons c cs =>
     obtain ⟨h1,h2⟩:=ih (ps:=ps) (cs:=cs) (ts:=ts) (hp:=hp) (by simpa using hl)
     refine ⟨by simp [passV,h1],fun j c' hj=>?_⟩
     cases j with
     | zero =>
      refine ⟨t,p,rfl,?_⟩
      cases m<;>(simp [passV] at hj;exact hj.symm)
     | succ j=>exact h2 j c' (by simpa [passV] using hj)
end
end Go.Ab
namespace Go.Ab
open Go
variable [GI]
section
variable {P:Program} {E:Env} {X Y Z:Ctx} {G:Beg} {o:Oper} {a:Act}
def Back (_ Y:Ctx) (G:Beg) (r:Hp × Nat) (F:Nat→Prop):Prop:=∃ Z:Ctx,Z.hp=r.1∧Z.nx=r.2∧WRel Z G∧Same Y Z∧Foot Y Z F
theorem Back.refl (hw:WRel Y G) {F:Nat→Prop}:Back X Y G (Y.hp,Y.nx) F:=⟨Y,rfl,rfl,hw,.refl Y,(Foot.refl Y).mono fun _ h=>h.elim⟩
theorem back0_rel (hX:WRel X G) (hw:WRel Y G) (e:Ext X Y) {v c:AV} {u:Value} {F:Nat→Prop} (hv:RelV X v u) (hc:RelA Y c u F) (hF:Free Y G F):Back X Y G (back0 X.hp v c Y.hp Y.nx) F:=by
 unfold back0
 split
 ·rename_i id cs
  split
  ·rename_i t _ h0 h1
   have hid:id < X.nx:=by cases hv;assumption
   cases hc with
   | pl c v F h hF'=>cases h
   | pb cs b t' arr fs F hb hl h hd hnb hF' hsf =>
    have hob:(X.ob id).v=.pointer (some ⟨b,0,none⟩):=by
     cases hv with
     | ptr id off v hid h =>
      obtain ⟨b',h1,h2⟩:=h
      cases h2
      exact h1
    obtain ⟨Z,z1,z2,z3,z4,z5,z6,z7⟩:=bindL_rel hw (agg_apart hl h hd (fun j b hj hb=>(hF' b).2 (.inr ⟨j,hj,hb⟩)) hF)
    have hidY:id < Y.nx:=Nat.lt_of_lt_of_le hid e.nx
    have hidZ:id < Z.nx:=Nat.lt_of_lt_of_le hidY z4.ext.nx
    have hobZ:(Z.ob id).v=.pointer (some ⟨b,0,none⟩):=by rw [(z4.ext.ob id hidY).1,(e.ob id hid).1,hob]
    refine ⟨setC Z id (.box t ((bindL cs Y.hp Y.nx).1.map (slo id))) ⟨.pointer (some ⟨b,0,none⟩),fun n=>n=b,(Z.ob id).k⟩ Z.nx,by show hput id _ Z.hp=_;rw [z1],z2,?_,?_,?_⟩
    ·refine setBox_rel (t':=t') (arr:=arr) z3 (Nat.le_refl _) hidZ (fun _=>⟨?_,rfl⟩) ?_ (by rw [z4.w];exact hb) (by rw [List.length_map,z6];simp) (fun j c u hj hu=>slo_rel hidZ hobZ hsf (fun c h1=>z7 j c u h1 (by simpa using hu)) hj hu) (slo_tag hl hsf)
     ·rw [(z4.ext.ob id hidY).1,(e.ob id hid).1,hob]
     ·refine (hF.sub (F':=fun n=>n=b) fun n hn=>(hF' n).2 (.inl hn)).foot z5 z4.w z4.R fun n hn hn'=>?_
      subst hn
      obtain ⟨j,hj,hb'⟩:=hn'
      exact hnb j hj hb'
    ·refine z4.trans (set_same (Nat.le_refl _) fun _=>⟨?_,rfl⟩)
     rw [(z4.ext.ob id hidY).1,(e.ob id hid).1,hob]
    ·exact (z5.trans set_foot).mono fun n hn=>(hF' n).2 (hn.elim (fun ⟨j,hj,h⟩=>.inr ⟨j,hj,h⟩) .inl)
  ·exact .refl hw
 ·rename_i id q d
  split
  ·rename_i q0 d0 h0 h1
   split
   ·rename_i hk
    have hid:id < X.nx:=by cases hv;assumption
    obtain ⟨hu,hk0,_⟩:=row_val hX hv h0
    cases hc with
    | pl c v F h hF'=>cases h
    | own q d v F h =>
     have hidY:id < Y.nx:=Nat.lt_of_lt_of_le hid e.nx
     have hold:u=(Y.ob id).v∧d.k=(Y.ob id).k:=⟨by rw [(e.ob id hid).1,hu],by rw [(e.ob id hid).2,hk,hk0]⟩
     exact ⟨setC Y id (.row q d) ⟨u,F,d.k⟩ Y.nx,rfl,rfl,setRow_rel hw (Nat.le_refl _) hidY (fun _=>hold) hF h,set_same (Nat.le_refl _) (fun _=>hold),set_foot⟩
   ·exact .refl hw
  ·exact .refl hw
 ·exact .refl hw
theorem backF_rel (hX:WRel X G):∀ {vs os:List AV} {us:List Value} {fs:Nat→Nat→Prop} {Y:Ctx},WRel Y G→Ext X Y→(∀ (j:Nat) (c:AV) (u:Value),vs[j]?=some c→us[j]?=some u→RelV X c u)→vs.length=us.length →
  Apart Y G os us fs→Back X Y G (backF X.hp vs os Y.hp Y.nx) (fun b=>∃ j,j < os.length∧fs j b)
 | [],os,us,fs,Y,hw,e,hr,hl,ha=>by cases os<;>exact .refl hw
 | v :: vs,[],us,fs,Y,hw,e,hr,hl,ha=>.refl hw
 | v :: vs,o :: os,[],fs,Y,hw,e,hr,hl,ha=>by cases hl
 | v :: vs,o :: os,u :: us,fs,Y,hw,e,hr,hl,ha=>by
  obtain ⟨r0,f0,at',dj⟩:=ha.head
  obtain ⟨Z,z1,z2,z3,z4,z5⟩:=back0_rel hX hw e (hr 0 v u rfl rfl) r0 f0
  have eXZ:Ext X Z:=e.trans (fun b hb _=>hw.rl b (e.R b hb)) z4.ext
  have ih:=backF_rel hX (vs:=vs) z3 eXZ (fun j c u hj hu=>hr (j+1) c u (by simpa using hj) (by simpa using hu)) (by simpa using hl) (at'.step z4 z5 fun j b hj h=>dj j b hj h)
  rw [z1,z2] at ih
  obtain ⟨W,w1,w2,w3,w4,w5⟩:=ih
  refine ⟨W,w1,w2,w3,z4.trans w4,(z5.trans w5).mono fun b h=>?_⟩
  rcases h with h | ⟨j,hj,h⟩
  ·exact ⟨0,by simp,h⟩
  ·exact ⟨j+1,by simpa using hj,h⟩
theorem back1_rel (hX:WRel X G) (hw:WRel Y G) (e:Ext X Y) {v c:AV} {u:Value} {F:Nat→Prop} (hv:RelV X v u) (hc:RelA Y c u F) (hF:Free Y G F):Back X Y G (back1 X.hp v c Y.hp Y.nx) F:=by
 unfold back1
 split
 ·rename_i f vs f2 os
  obtain ⟨cv,rfl,hl,hr⟩:=fn_nil hv
  have key:∃ fs:Nat→Nat→Prop,(∀ j b,j < os.length→fs j b→F b)∧Apart Y G os cv.toList fs:=by
   cases hc with
   | pl c v F h hF' =>
    obtain ⟨cv',e',hl',hr'⟩:=fn_nil h
    have:cv=cv':=by injection e'
    subst this
    exact ⟨fun _ _=>False,fun _ _ _ h=>h.elim,plain_apart (by simpa using hl') fun j c u hj hu=>hr' j c u hj (by simpa using hu)⟩
   | fn f cs vs fs F hl' h hd hF' =>
    exact ⟨fs,fun j b hj hb=>(hF' b).2 ⟨j,hj,hb⟩,agg_apart hl' h hd (fun j b hj hb=>(hF' b).2 ⟨j,hj,hb⟩) hF⟩
  obtain ⟨fs,k1,k2⟩:=key
  obtain ⟨Z,z1,z2,z3,z4,z5⟩:=backF_rel hX hw e (us:=cv.toList) (fun j c u hj hu=>hr j c u hj (by simpa using hu)) (by simpa using hl) k2
  exact ⟨Z,z1,z2,z3,z4,z5.mono fun b ⟨j,hj,h⟩=>k1 j b hj h⟩
 ·exact back0_rel hX hw e hv hc hF
theorem backL_rel (hX:WRel X G):∀ {vs os:List AV} {us:List Value} {fs:Nat→Nat→Prop} {Y:Ctx},WRel Y G→Ext X Y→(∀ (j:Nat) (c:AV) (u:Value),vs[j]?=some c→us[j]?=some u→RelV X c u)→vs.length=us.length →
  Apart Y G os us fs→Back X Y G (backL X.hp vs os Y.hp Y.nx) (fun b=>∃ j,j < os.length∧fs j b)
 | [],os,us,fs,Y,hw,e,hr,hl,ha=>by cases os<;>exact .refl hw
 | v :: vs,[],us,fs,Y,hw,e,hr,hl,ha=>.refl hw
 | v :: vs,o :: os,[],fs,Y,hw,e,hr,hl,ha=>by cases hl
 | v :: vs,o :: os,u :: us,fs,Y,hw,e,hr,hl,ha=>by
  obtain ⟨r0,f0,at',dj⟩:=ha.head
  obtain ⟨Z,z1,z2,z3,z4,z5⟩:=back1_rel hX hw e (hr 0 v u rfl rfl) r0 f0
  have eXZ:Ext X Z:=e.trans (fun b hb _=>hw.rl b (e.R b hb)) z4.ext
  have ih:=backL_rel hX (vs:=vs) z3 eXZ (fun j c u hj hu=>hr (j+1) c u (by simpa using hj) (by simpa using hu)) (by simpa using hl) (at'.step z4 z5 fun j b hj h=>dj j b hj h)
  rw [z1,z2] at ih
  obtain ⟨W,w1,w2,w3,w4,w5⟩:=ih
  refine ⟨W,w1,w2,w3,z4.trans w4,(z5.trans w5).mono fun b h=>?_⟩
  rcases h with h | ⟨j,hj,h⟩
  ·exact ⟨0,by simp,h⟩
  ·exact ⟨j+1,by simpa using hj,h⟩
theorem backV_rel (hX:WRel X G) (hw:WRel Y G) (e:Ext X Y) {v c:AV} {u:Value} {F:Nat→Prop} (hv:RelV X v u) (hc:RelA Y c u F) (hF:Free Y G F):Back X Y G (backV X.hp v c Y.hp Y.nx) F:=by
 unfold backV
 split
 ·rename_i vs os
  cases hv with
  | agg _ us hl hr =>
   cases hc with
   | pl c v F h hF' =>
    cases h with
    | agg _ _ hl' hr' =>
     obtain ⟨Z,z1,z2,z3,z4,z5⟩:=backL_rel hX hw e (us:=us.toList) (fun j c u hj hu=>hr j c u hj (by simpa using hu)) (by simpa using hl) (plain_apart (by simpa using hl') fun j c u hj hu=>hr' j c u hj (by simpa using hu))
     exact ⟨Z,z1,z2,z3,z4,z5.mono fun b ⟨_,_,h⟩=>h.elim⟩
   | agg _ _ fs F hl' h hd hF' =>
    obtain ⟨Z,z1,z2,z3,z4,z5⟩:=backL_rel hX hw e (us:=us.toList) (fun j c u hj hu=>hr j c u hj (by simpa using hu)) (by simpa using hl) (agg_apart hl' h hd (fun j b hj hb=>(hF' b).2 ⟨j,hj,hb⟩) hF)
    exact ⟨Z,z1,z2,z3,z4,z5.mono fun b ⟨j,hj,h⟩=>(hF' b).2 ⟨j,hj,h⟩⟩
 ·exact back1_rel hX hw e hv hc hF
theorem backA_rel (hX:WRel X G):∀ {ms:List Md} {vs os:List AV} {us:List Value} {fs:Nat→Nat→Prop} {Y:Ctx},WRel Y G→Ext X Y→(∀ (j:Nat) (c:AV) (u:Value),vs[j]?=some c→us[j]?=some u→RelV X c u)→vs.length=us.length →
  Apart Y G os (inouts ms us) fs→Back X Y G (backA X.hp ms vs os Y.hp Y.nx) (fun b=>∃ j,j < os.length∧fs j b)
 | [],vs,os,us,fs,Y,hw,e,hr,hl,ha=>.refl hw
 | m :: ms,[],os,us,fs,Y,hw,e,hr,hl,ha=>.refl hw
 | m :: ms,v :: vs,os,[],fs,Y,hw,e,hr,hl,ha=>by cases hl
 | m :: ms,v :: vs,os,u :: us,fs,Y,hw,e,hr,hl,ha=>by
  have hr':∀ (j:Nat) (c:AV) (u:Value),vs[j]?=some c→us[j]?=some u→RelV X c u:=fun j c u hj hu=>hr (j+1) c u (by simpa using hj) (by simpa using hu)
  cases m with
  | rd=>exact backA_rel hX (ms:=ms) (vs:=vs) hw e hr' (by simpa using hl) ha
  | tk=>exact backA_rel hX (ms:=ms) (vs:=vs) hw e hr' (by simpa using hl) ha
  | io =>
   cases os with
   | nil=>exact .refl hw
   | cons o os =>
    obtain ⟨r0,f0,at',dj⟩:=Apart.head (c:=o) (u:=u) (cs:=os) (us:=inouts ms us) ha
    obtain ⟨Z,z1,z2,z3,z4,z5⟩:=backV_rel hX hw e (hr 0 v u rfl rfl) r0 f0
    have eXZ:Ext X Z:=e.trans (fun b hb _=>hw.rl b (e.R b hb)) z4.ext
    have ih:=backA_rel hX (ms:=ms) (vs:=vs) z3 eXZ hr' (by simpa using hl) (at'.step z4 z5 fun j b hj h=>dj j b hj h)
    rw [z1,z2] at ih
    obtain ⟨W,w1,w2,w3,w4,w5⟩:=ih
    refine ⟨W,w1,w2,w3,z4.trans w4,(z5.trans w5).mono fun b h=>?_⟩
    rcases h with h | ⟨j,hj,h⟩
    ·exact ⟨0,by simp,h⟩
    ·exact ⟨j+1,by simpa using hj,h⟩
theorem okRes0_rel {r:AV} {v:Value} {F:Nat→Prop} (h:RelA Y r v F) (hs:okRes0 r=true) (hety:Z.ety=Y.ety) (hw:Z.w=Y.w):RelA Z r v F:=by
 cases h with
 | pl c v F h hF =>
  cases h<;>first | (cases hs;done) | exact .pl _ _ _ (by constructor<;>assumption) hF
 | own q d v F h =>
  have:q=true:=hs
  subst this
  exact .own _ _ _ _ (by rw [hety,hw];exact h)
 | _=>cases hs
theorem okRes1_rel {r:AV} {v:Value} {F:Nat→Prop} (h:RelA Y r v F) (hs:okRes1 r=true) (hety:Z.ety=Y.ety) (hw:Z.w=Y.w):RelA Z r v F:=by
 cases h with
 | agg cs vs fs F hl h hd hF=>exact .agg cs vs fs F hl (fun j c u hj hu=>okRes0_rel (h j c u hj hu) (List.all_eq_true.1 hs c (List.mem_of_getElem? hj)) hety hw) hd hF
 | own q d v F h=>exact okRes0_rel (.own q d v F h) hs hety hw
 | pl c v F h hF =>
  cases h with
  | agg cs vs hl h =>
   refine .agg cs vs (fun _ _=>False) F hl (fun j c u hj hu=>okRes0_rel (.pl c u (fun _=>False) (h j c u hj hu) fun _ h=>h) (List.all_eq_true.1 hs c (List.mem_of_getElem? hj)) hety hw) (fun _ _ _ _ _ h=>h.elim) (fun b=>⟨fun h=>absurd h (hF b),fun ⟨_,_,h⟩=>h.elim⟩)
  | _=>first | (cases hs;done) | exact .pl _ _ _ (by constructor<;>assumption) hF
 | _=>cases hs
theorem okResB_rel {r:AV} {v:Value} {F:Nat→Prop} (h:RelA Y r v F) (hs:okResB r=true) (hety:Z.ety=Y.ety) (hw:Z.w=Y.w):RelA Z r v F:=by
 by_cases hc:∃ cs,r=.pb cs
 ·obtain ⟨cs,rfl⟩:=hc
  cases h with
  | pb cs b t arr fs F hb hl h hd hnb hF hsf=>exact .pb cs b t arr fs F (by rw [hw];exact hb) hl (fun j c u hj hu=>okRes1_rel (h j c u hj hu) (List.all_eq_true.1 hs c (List.mem_of_getElem? hj)) hety hw) hd hnb hF hsf
  | pl c v F h hF=>cases h
 ·have e:okResB r=okRes1 r:=by cases r<;>first | rfl | exact absurd ⟨_,rfl⟩ hc
  rw [e] at hs
  exact okRes1_rel h hs hety hw
theorem okRes_rel {r:AV} {v:Value} {F:Nat→Prop} (h:RelA Y r v F) (hs:okRes r=true) (hety:Z.ety=Y.ety) (hw:Z.w=Y.w):RelA Z r v F:=by
 cases h with
 | agg cs vs fs F hl h hd hF=>exact okRes1_rel (.agg cs vs fs F hl h hd hF) hs hety hw
 | own q d v F h=>exact okRes0_rel (.own q d v F h) hs hety hw
 | tup cs vs fs F hl h hd hF=>exact .tup cs vs fs F hl (fun j c u hj hu=>okRes1_rel (h j c u hj hu) (List.all_eq_true.1 hs c (List.mem_of_getElem? hj)) hety hw) hd hF
 | pb cs b t arr fs F hb hl h hd hnb hF hsf=>exact .pb cs b t arr fs F (by rw [hw];exact hb) hl (fun j c u hj hu=>okRes1_rel (h j c u hj hu) (List.all_eq_true.1 hs c (List.mem_of_getElem? hj)) hety hw) hd hnb hF hsf
 | pl c v F h hF =>
  cases h with
  | tup cs vs hl h =>
   refine .tup cs vs (fun _ _=>False) F hl (fun j c u hj hu=>okRes1_rel (.pl c u (fun _=>False) (h j c u hj hu) fun _ h=>h) (List.all_eq_true.1 hs c (List.mem_of_getElem? hj)) hety hw) (fun _ _ _ _ _ h=>h.elim) (fun b=>⟨fun h=>absurd h (hF b),fun ⟨_,_,h⟩=>h.elim⟩)
  | agg cs vs hl h=>exact okRes1_rel (.pl _ _ _ (.agg cs vs hl h) hF) hs hety hw
  | fn f fs cs fv cv hf hcl h1 h2 =>
   cases fs with
   | cons g fs=>cases hs
   | nil =>
    obtain ⟨cv',e',hl',hr'⟩:=fn_nil (.fn f [] cs fv cv hf hcl h1 h2)
    rw [e']
    have:cv=cv':=by injection e'
    subst this
    exact .fn f cs cv (fun _ _=>False) F hl' (fun j c u hj hu=>okResB_rel (.pl c u (fun _=>False) (hr' j c u hj hu) fun _ h=>h) (List.all_eq_true.1 hs c (List.mem_of_getElem? hj)) hety hw) (fun _ _ _ _ _ h=>h.elim) (fun b=>⟨fun h=>absurd h (hF b),fun ⟨_,_,h⟩=>h.elim⟩)
  | _=>first | (cases hs;done) | exact .pl _ _ _ (by constructor<;>assumption) hF
 | fn f cs vs fs F hl h hd hF=>exact .fn f cs vs fs F hl (fun j c u hj hu=>okResB_rel (h j c u hj hu) (List.all_eq_true.1 hs c (List.mem_of_getElem? hj)) hety hw) hd hF
theorem noRefM_at:∀ {ms:List Md} {ps:List PS} {L ts:List AV} {j:Nat} {t:AV},noRefM ms ps ts=true→ts.length=L.length→mdAt ms ps L j=.rd→ts[j]?=some t→noRef t=true
 | [],ps,L,ts,j,t,h,_,_,ht=>List.all_eq_true.1 (show ts.all noRef=true from h) t (List.mem_of_getElem? ht)
 | m :: ms,[],L,ts,j,t,h,_,_,ht=>List.all_eq_true.1 (show ts.all noRef=true from h) t (List.mem_of_getElem? ht)
 | m :: ms,p :: ps,L,[],j,t,h,_,_,ht=>by simp at ht
 | m :: ms,p :: ps,[],t0 :: ts,j,t,h,hl,_,ht=>by cases hl
 | m :: ms,p :: ps,c :: L,t0 :: ts,0,t,h,hl,hm,ht=>by
  obtain ⟨h1,h2⟩:=(Bool.and_eq_true _ _ ▸ h:_∧_)
  have hm':m=.rd:=hm
  subst hm'
  simp at ht
  subst ht
  exact h1
 | m :: ms,p :: ps,c :: L,t0 :: ts,j+1,t,h,hl,hm,ht=>by
  obtain ⟨h1,h2⟩:=(Bool.and_eq_true _ _ ▸ h:_∧_)
  exact noRefM_at (ms:=ms) (ps:=ps) (L:=L) (ts:=ts) (j:=j) h2 (by simpa using hl) hm (by simpa using ht)
def OpH (P:Program) (X:Ctx) (G:Beg) (o:Oper) (a:Act) (v:AV) (hp:Hp) (nx:Nat):Prop :=
 ∀ (K:Act→World→Prop) (Q:Exit→Act→World→Prop),(∀ X' u,Ext X X'→WRel X' G→X'.hp=hp→X'.nx=nx→RelV X' v u→K (a.put o.dst u) X'.w)→o.wp P a X.w K Q
theorem RelA.list {cs:List AV} {us:List Value} {F:Nat→Prop} (h:RelA Y (.agg cs) (.agg us.toArray) F) :
  ∃ fs:Nat→Nat→Prop,cs.length=us.length∧(∀ (j:Nat) (c:AV) (u:Value),cs[j]?=some c→us[j]?=some u→RelA Y c u (fs j))∧(∀ j k b,j < cs.length→k < cs.length→fs j b→fs k b→j=k)∧∀ j b,j < cs.length→fs j b→F b:=by
 cases h with
 | pl c v F h hF =>
  cases h with
  | agg _ _ hl h=>exact ⟨fun _ _=>False,by simpa using hl,fun j c u hj hu=>.pl _ _ _ (h j c u hj (by simpa using hu)) (fun _ h=>h),fun _ _ _ _ _ h=>h.elim,fun _ _ _ h=>h.elim⟩
 | agg _ _ fs F hl h hd hF=>exact ⟨fs,by simpa using hl,fun j c u hj hu=>h j c u hj (by simpa using hu),hd,fun j b hj hb=>(hF b).2 ⟨j,hj,hb⟩⟩
theorem callH_sound (hE:EnvOk P E) (hety:X.ety=E.ety) (hw:WRel X G) {dst ty pos after gd} {f:Operand} {args:Array Operand} {ats:Array TypeId} {e:Operand→AV} {g:FuncId} {first caps:List AV} {sp:Spec} (hcal:E.cal g=some sp)
  (hf:RelV X (.fn g first caps) (a.eval f)) (he:∀ x,x∈args.toList→RelV X (e x) (a.eval x)) {p:Option Prop} {v:AV} {hp:Hp} {nx:Nat}
  (h:callH sp (first++args.toList.map e++caps) X.hp X.nx=some (p,v,hp,nx)) (hq:∀ q,p=some q→q):OpH P X G ⟨dst,.call ⟨.value f,args,ats⟩,ty,pos,after,gd⟩ a v hp nx:=by
 obtain ⟨fv,cv,hfv,hlen,hrel⟩:=fn_args (c:=e) hf he
 generalize first++args.toList.map e++caps=L at *
 generalize hV:fv++args.map a.eval++cv=V at *
 simp only [callH] at h
 obtain ⟨fs,p1,p2,p3,p4,p5⟩:=passT_rel (ms:=sp.modes) (ps:=sp.ps) (cs:=L) (us:=V.toList) hw (by simpa using hlen) (fun j c u hj hu=>hrel j c u hj (by simpa using hu))
 generalize hT:passT sp.modes sp.ps L X.hp=T at *
 obtain ⟨ts,hp1⟩:=T
 simp only at h p1 p2 p3 p4
 have htl:ts.length=L.length:=by rw [p4.len,Array.length_toList,hlen]
 cases hrun:sp.run (passV sp.modes sp.ps ts hp1) with
 | none=>rw [hrun] at h;cases h
 | some rr =>
 obtain ⟨p',r,outs⟩:=rr
 rw [hrun] at h
 simp only at h
 split at h
 rotate_left
 ·cases h
 rename_i hres
 simp only [Option.some.injEq,Prod.mk.injEq] at h
 obtain ⟨rfl,rfl,rfl,rfl⟩:=h
 have hfn:=hE.cal g sp hcal
 generalize hX1:({ X with hp:=hp1 }:Ctx)=X1 at *
 have x1w:X1.w=X.w:=by rw [← hX1]
 have x1R:X1.R=X.R:=by rw [← hX1]
 have x1e:X1.ety=X.ety:=by rw [← hX1]
 have x1h:X1.hp=hp1:=by rw [← hX1]
 have x1n:X1.nx=X.nx:=by rw [← hX1]
 intro K Q hK
 unfold Oper.wp
 rw [run_call hfv (hE.ent g sp hcal),Oper.upon_enter,hV]
 -- what is handed over
 let F:Nat→Prop:=fun b=>∃ j,j < ts.length∧fs j b
 have hFree:Free X1 G F:=⟨fun b ⟨j,hj,hb⟩=>(p4.free j hj).nr b hb,fun i b h1 h2 ⟨j,hj,hb⟩=>(p4.free j hj).nl i b h1 h2 hb,fun b ⟨j,hj,hb⟩=>(p4.free j hj).lt b hb,fun b ⟨j,hj,hb⟩=>(p4.free j hj).ok b hb⟩
 have main:∀ Rc:Nat→Prop,(∀ b,X1.R b→Rc b)→(∀ b,Rc b→b < X1.w.heap.size)→(∀ b,F b→¬ Rc b)→(noRefM sp.modes sp.ps ts=true∨∀ id b,live X1 id→(X1.ob id).F b→Rc b) →
   Calls P g V X.w fun e w'=>∃ (u:Value) (R' F':Nat→Prop) (Fc:Nat→Prop),e=.returned u∧(∀ b,Fc b→F b)∧(∀ b,Rc b→R' b)∧(∀ b,R' b→b < w'.heap.size)∧(∀ b,R' b→Rc b∨X.w.heap.size≤b∨Fc b) ∧
    RelA (ctx0 X.ety w' R') (.agg (r :: outs)) (.agg (u :: inouts sp.modes V.toList).toArray) F'∧(∀ b,F' b→¬ R' b)∧(∀ b,F' b→X.w.heap.size≤b∨Fc b)∧Keep Fc X.w w':=by
  intro Rc hRc hlt hFR hF
  obtain ⟨hn1,hn2⟩:=passV_get (ms:=sp.modes) (ps:=sp.ps) (cs:=L) (ts:=ts) (hp:=hp1) htl
  have key:∀ j,∃ F':Nat→Prop,(∀ b,F' b→j < ts.length∧fs j b)∧∀ (c:AV) (u:Value),(passV sp.modes sp.ps ts hp1)[j]?=some c→V[j]?=some u→RelA (ctx0 X.ety X.w Rc) c u F':=by
   intro j
   by_cases hj:j < ts.length
   ·have hjV:j < V.size:=by rw [← hlen,← htl];exact hj
    have hjP:j < (passV sp.modes sp.ps ts hp1).length:=by rw [hn1];exact hj
    obtain ⟨t,p,ht,hcc⟩:=hn2 j _ (List.getElem?_eq_getElem hjP)
    have hJ:=p4.rel j t V[j] ht (by simp [hjV])
    have:∃ F':Nat→Prop,(∀ b,F' b→fs j b)∧RelA (ctx0 X.ety X.w Rc) ((passV sp.modes sp.ps ts hp1)[j]) V[j] F':=by
     rw [hcc]
     cases hm:mdAt sp.modes sp.ps L j with
     | rd =>
      rw [hm] at hJ
      refine ⟨fun _=>False,fun _ h=>h.elim,.pl _ _ _ (norm_rel ?_) (fun _ h=>h)⟩
      have:=view_rel p1 hRc hJ.1 (hF.imp (fun h=>noRefM_at (L:=L) h htl hm ht) id)
      rw [x1h,x1e,x1w] at this
      exact this
     | tk =>
      rw [hm] at hJ
      have:=hJ Rc hRc
      rw [x1e,x1w] at this
      exact this
     | io =>
      rw [hm] at hJ
      have:=hJ Rc hRc
      rw [x1e,x1w] at this
      exact this
    obtain ⟨F',h1,h2⟩:=this
    refine ⟨F',fun b hb=>⟨hj,h1 b hb⟩,fun c u hc hu=>?_⟩
    rw [List.getElem?_eq_getElem hjP] at hc
    rw [Array.getElem?_eq_getElem hjV] at hu
    cases hc
    cases hu
    exact h2
   ·exact ⟨fun _=>False,fun _ h=>h.elim,fun c u hc=>by rw [List.getElem?_eq_none (by rw [hn1];omega)] at hc;cases hc⟩
  let fc:=fun j=>(key j).choose
  have fc1:∀ j b,fc j b→j < ts.length∧fs j b:=fun j=>(key j).choose_spec.1
  have hargs:RelA (ctx0 X.ety X.w Rc) (.agg (passV sp.modes sp.ps ts hp1)) (.agg V) (fun b=>∃ j,j < (passV sp.modes sp.ps ts hp1).length∧fc j b) :=
   .agg _ V fc _ (by rw [hn1,htl,hlen]) (fun j c u hj hu=>(key j).choose_spec.2 c u hj hu) (fun j k b _ _ e1 e2=>p4.dis j k b (fc1 j b e1).1 (fc1 k b e2).1 (fc1 j b e1).2 (fc1 k b e2).2) (fun _=>Iff.rfl)
  have hFc:∀ b,(∃ j,j < (passV sp.modes sp.ps ts hp1).length∧fc j b)→F b:=fun b ⟨j,_,hb⟩=>⟨j,fc1 j b hb⟩
  have:=hfn _ _ _ _ hrun hq X.w Rc V _ (by rw [← hety];exact hargs) (by rw [← x1w];exact hlt) (fun b hb=>hFR b (hFc b hb)) (fun b hb=>by rw [← x1w];exact hFree.lt b (hFc b hb)) (by rw [← x1w];exact GI.mono p1.gi hRc fun _ _ _=>rfl)
  refine this.mono fun en w' hh=>?_
  obtain ⟨u,R',F',h1,h2,h3,h4,h5,h6,h7,h8⟩:=hh
  exact ⟨u,R',F',_,h1,hFc,h2,h3,h4,by rw [hety];exact h5,h6,h7,h8⟩
 -- what comes back
 have tail:∀ (u:Value) (w':World) (R1 F' Fc:Nat→Prop),(∀ b,Fc b→F b)→Keep Fc X.w w'→(∀ b,X1.R b→R1 b)→(∀ b,R1 b→X1.R b∨X1.w.heap.size≤b∨F b)→(∀ b,R1 b→b < w'.heap.size) →
   RelA { X1 with w:=w',R:=R1 } (.agg (r :: outs)) (.agg (u :: inouts sp.modes V.toList).toArray) F'→(∀ b,F' b→¬ R1 b)→(∀ b,F' b→X.w.heap.size≤b∨Fc b) →
   K (a.put dst u) w':=by
  intro u w' R1 F' Fc hFc hk hR hn hl hr hFR hFn
  have hkF:Keep F X1.w w':=by rw [x1w];exact hk.mono hFc
  have e2:=world_ext (R':=R1) hFree hkF hR
  have w2:=world_rel p1 hFree hkF hR hn hl
  generalize hX2:({ X1 with w:=w',R:=R1 }:Ctx)=X2 at *
  have x2w:X2.w=w':=by rw [← hX2]
  have x2R:X2.R=R1:=by rw [← hX2]
  have x2h:X2.hp=hp1:=by rw [← hX2];exact x1h
  have x2n:X2.nx=X.nx:=by rw [← hX2];exact x1n
  have x2l:∀ id,live X2 id→live X1 id:=fun id h=>by rw [← hX2] at h;exact h
  have x2o:∀ id,X2.ob id=X1.ob id:=fun id=>by rw [← hX2]
  have eX2:Ext X X2:=p2.ext.trans (fun b _ hs=>by rw [x1w];exact hs) e2
  have hF2:Free X2 G F':=by
   refine ⟨fun b hb=>by rw [x2R];exact hFR b hb,fun i b h1 h2 hb=>?_,fun b hb=>hr.lt b hb,fun b hb=>?_⟩
   ·rw [x2o] at h2
    have hl1:=x2l i h1
    rcases hFn b hb with h | h
    ·have:=live_lt_heap p1 hl1 h2
     rw [x1w] at this
     omega
    ·exact hFree.nl i b hl1 h2 (hFc b h)
   ·rcases hFn b hb with h | h
    ·exact .inl (Nat.le_trans hw.kp.size h)
    ·exact hFree.ok b (hFc b h)
  obtain ⟨gs,g1,g2,g3,g4⟩:=hr.list
  have hap:Apart X2 G (r :: outs) (u :: inouts sp.modes V.toList) gs:=⟨g1,g2,g3,fun j hj=>hF2.sub fun b hb=>g4 j b hj hb⟩
  obtain ⟨r0,f0,at',dj⟩:=hap.head
  obtain ⟨Y,y1,y2,y3,y4,y5,y6⟩:=bindV_rel w2 r0 f0
  have eXY:Ext X Y:=eX2.trans (fun b hb _=>w2.rl b (eX2.R b hb)) y4.ext
  obtain ⟨Z,z1,z2,z3,z4,z5⟩:=backA_rel hw (ms:=sp.modes) (vs:=L) (us:=V.toList) y3 eXY (fun j c u hj hu=>hrel j c u hj (by simpa using hu)) (by simpa using hlen) (at'.step y4 y5 fun j b hj h=>dj j b hj h)
  have:=hK Z u (eXY.trans (fun b hb _=>y3.rl b (eXY.R b hb)) z4.ext) z3 (by rw [z1,y1,y2,x2h,x2n]) (by rw [z2,y1,y2,x2h,x2n]) (by rw [← x2h,← x2n];exact y6.ext z4.ext)
  rw [z4.w,y4.w,x2w] at this
  exact this
 rw [Bool.or_eq_true,Bool.and_eq_true] at hres
 rcases hres with ⟨hs,hos⟩ | hno
 ·refine (main (fun b=>X1.R b∨∃ id,live X1 id∧(X1.ob id).F b) (fun b h=>.inl h) (fun b h=>?_) (fun b hb h=>?_) (.inr fun id b h1 h2=>.inr ⟨id,h1,h2⟩)).mono fun en w' hh=>?_
  ·rcases h with h | ⟨id,h1,h2⟩
   ·exact p1.rl b h
   ·exact live_lt_heap p1 h1 h2
  ·rcases h with h | ⟨id,h1,h2⟩
   ·exact hFree.nr b hb h
   ·exact hFree.nl id b h1 h2 hb
  ·obtain ⟨u,R',F',Fc,rfl,hFc,h2,h3,h4,h5,h6,h7,h8⟩:=hh
   obtain ⟨gs,g1,g2,g3,g4⟩:=h5.list
   refine tail u w' X1.R (fun b=>∃ j,j < (r :: outs).length∧gs j b) Fc hFc h8 (fun _ h=>h) (fun _ h=>.inl h) (fun b hb=>Nat.lt_of_lt_of_le (p1.rl b hb) (by rw [x1w];exact h8.size)) ?_ (fun b ⟨j,hj,hb⟩ hR=>h6 b (g4 j b hj hb) (h2 b (.inl hR))) (fun b ⟨j,hj,hb⟩=>h7 b (g4 j b hj hb))
   refine .agg _ _ gs _ (by simpa using g1) (fun j c u' hj hu=>?_) g3 (fun _=>Iff.rfl)
   refine okRes_rel (Y:=ctx0 X.ety w' R') (g2 j c u' hj (by simpa using hu)) ?_ x1e rfl
   cases j with
   | zero=>simp at hj;subst hj;exact hs
   | succ j=>exact List.all_eq_true.1 hos c (List.mem_of_getElem? (by simpa using hj))
 ·refine (main X1.R (fun _ h=>h) p1.rl hFree.nr (.inl hno)).mono fun en w' hh=>?_
  obtain ⟨u,R',F',Fc,rfl,hFc,h2,h3,h4,h5,h6,h7,h8⟩:=hh
  have e0:Ext (ctx0 X.ety w' R') { X1 with w:=w',R:=R' }:=by rw [← x1e];exact ctx0_ext { X1 with w:=w',R:=R' } rfl (fun _ h=>h)
  exact tail u w' R' F' Fc hFc h8 h2 (fun b hb=>(h4 b hb).imp id (Or.imp (by rw [x1w];exact id) (hFc b))) h3 (h5.ext e0 rfl) h6 h7
end
end Go.Ab
namespace Go.Ab
open Go
variable [GI]
theorem keep_alloc (w:World) (ob:Obj):Keep (fun _=>False) w (w.alloc ob):=by
 refine ⟨rfl,rfl,rfl,?_,fun b hb _=>?_⟩
 ·show w.heap.size≤(w.heap.push ob).size
  simp
 ·show (w.heap.push ob)[b]?=_
  rw [Array.getElem?_push_lt hb]
  simp
theorem keep_alloc_drew (w:World) (ob:Obj):Keep (fun _=>False) w (w.drew.alloc ob):=by
 refine ⟨rfl,rfl,rfl,?_,fun b hb _=>?_⟩
 ·show w.heap.size≤(w.heap.push ob).size
  simp
 ·show (w.heap.push ob)[b]?=_
  rw [Array.getElem?_push_lt hb]
  simp
theorem alloc_new (w:World) (ob:Obj):(w.alloc ob).heap[w.heap.size]?=some ob:=by
 show (w.heap.push ob)[w.heap.size]?=_
 simp
theorem alloc_new_drew (w:World) (ob:Obj):(w.drew.alloc ob).heap[w.heap.size]?=some ob:=by
 show (w.heap.push ob)[w.heap.size]?=_
 simp
theorem keep_setCell (w:World) (g j:Nat) (v:Value):Keep (fun b=>b=g) w (w.setCell ⟨g,j,none⟩ v):=by
 refine ⟨rfl,rfl,rfl,?_,fun b hb hn=>?_⟩
 ·show w.heap.size≤(w.heap.modify g _).size
  simp
 ·show (w.heap.modify g _)[b]?=_
  rw [Array.getElem?_modify,if_neg (fun e=>hn e.symm)]
theorem st_cells {P:Program} {g o:Nat} {t:TypeId} {fz:Nat × Nat}:∀ (vs:List Value) (i:Nat) (cur:Array Value) (w:World),w.heap[g]?=some (.cells cur t fz)→(∀ k:Nat,k < cur.size→¬ (fz.1≤k∧k < fz.2))→o+i+vs.length≤cur.size →
  (∀ v∈vs,v.oneCell'=true)→∃ w' cur',(storeCells ⟨g,o,none⟩ vs i).run P w=.ok () w'∧w'.heap[g]?=some (.cells cur' t fz)∧cur'.size=cur.size ∧
   (∀ k:Nat,cur'[k]?=if o+i≤k∧k < o+i+vs.length then vs[k - (o+i)]? else cur[k]?)∧Keep (fun b=>b=g) w w'
 | [],i,cur,w,hg,hf,hl,h1=>⟨w,cur,rfl,hg,rfl,fun k=>by rw [if_neg (by simp only [List.length_nil];omega)],.refl _ _⟩
 | v :: rest,i,cur,w,hg,hf,hl,h1=>by
  have hi:o+i < cur.size:=by simp at hl;omega
  have hadd:(⟨g,o,none⟩:Addr).add i=⟨g,o+i,none⟩:=by unfold Addr.add;split<;>simp_all
  have hcell:w.cell? ⟨g,o+i,none⟩=some cur[o+i]:=by simp [World.cell?,hg,hi]
  have hfro:w.frozen? ⟨g,o+i,none⟩=false:=by
   have:=hf (o+i) hi
   obtain ⟨a,b⟩:=fz
   simp only [World.frozen?,hg]
   simpa using fun h=>Nat.le_of_not_lt fun h'=>this ⟨h,h'⟩
  have hg':(w.setCell ⟨g,o+i,none⟩ v).heap[g]?=some (.cells (cur.setIfInBounds (o+i) v) t fz):=by
   show (w.heap.modify g _)[g]?=_
   rw [Array.getElem?_modify,if_pos rfl,hg]
   rfl
  have hst:(store ((⟨g,o,none⟩:Addr).add i) v).run P w=.ok () (w.setCell ⟨g,o+i,none⟩ v):=by
   rw [hadd,run_store P w _ v _ (h1 v (by simp)),hcell]
   simp [hfro]
  obtain ⟨w',cur',r1,r2,r3,r4,r5⟩:=st_cells (P:=P) (o:=o) rest (i+1) (cur.setIfInBounds (o+i) v) _ hg' (fun k hk=>hf k (by simpa using hk)) (by simp at hl ⊢;omega) (fun x hx=>h1 x (by simp [hx]))
  refine ⟨w',cur',by simp only [storeCells,Sem.run_bind,hst,Result.andThen_ok,r1],r2,by rw [r3];simp,fun k=>?_,(keep_setCell w g (o+i) v).trans r5⟩
  rw [r4 k]
  by_cases h1:k=o+i
  ·subst h1
   rw [if_neg (by omega),if_pos ⟨Nat.le_refl _,by simp⟩]
   simp [hi]
  ·by_cases h2:o+(i+1)≤k∧k < o+(i+1)+rest.length
   ·rw [if_pos h2,if_pos (by simp only [List.length_cons];omega)]
    have:k - (o+i)=(k - (o+(i+1)))+1:=by omega
    rw [this]
    simp
   ·rw [if_neg h2,if_neg (by simp only [List.length_cons];omega)]
    rw [Array.getElem?_setIfInBounds,if_neg (fun e=>h1 e.symm)]
section
variable {P:Program} {E:Env} {X Y Z:Ctx} {G:Beg} {o:Oper} {a:Act}
theorem fresh_free (hw:WRel X G) {w':World} {b:Nat} (h0:X.w.heap.size≤b) (h1:b < w'.heap.size):Free { X with w:=w' } G (fun n=>n=b):=by
 refine ⟨fun n hn hR=>?_,fun i n l1 l2 hn=>?_,fun n hn=>by rw [hn];exact h1,fun n hn=>.inl (by rw [hn];exact Nat.le_trans hw.kp.size h0)⟩
 ·have:=hw.rl n hR
  omega
 ·have:=live_lt_heap hw l1 l2
  omega
theorem newbox (hw:WRel X G) {t t':TypeId} {cs:List AV} {arr:Array Value} (hl:arr.size=cs.length) (hc:∀ Y:Ctx,Ext X Y→X.nx < Y.nx→(Y.ob X.nx).v=.pointer (some ⟨X.w.heap.size,0,none⟩)→∀ (j:Nat) (c:AV) (u:Value),cs[j]?=some c→arr[j]?=some u→RelV Y c u) (htg:TagC cs t') :
  ∃ X',Ext X X'∧WRel X' G∧X'.hp=hput X.nx (.box t cs) X.hp∧X'.nx=X.nx+1∧X'.w=X.w.alloc (.cells arr t')∧RelV X' (.ptr X.nx 0) (.pointer (some ⟨X.w.heap.size,0,none⟩)):=by
 have hk:=keep_alloc X.w (.cells arr t')
 have e1:=grow_ext (X:=X) (R':=X.R) hk (fun _ h=>h)
 have w1:=grow_rel hw (R':=X.R) hk (fun _ h=>h) (fun _ h=>.inl h) (fun b hb=>Nat.lt_of_lt_of_le (hw.rl b hb) hk.size)
 have hnew:=alloc_new X.w (.cells arr t')
 have hF:=fresh_free hw (Nat.le_refl _) (lt_of_heap hnew)
 generalize hX1:({ X with w:=X.w.alloc (.cells arr t') }:Ctx)=X1 at *
 have x1:X1.w=X.w.alloc (.cells arr t'):=by rw [← hX1]
 have xn:X1.nx=X.nx:=by rw [← hX1]
 have xh:X1.hp=X.hp:=by rw [← hX1]
 have eZ:Ext X (setC X1 X.nx (.box t cs) ⟨.pointer (some ⟨X.w.heap.size,0,none⟩),fun n=>n=X.w.heap.size,.u8⟩ (X.nx+1)):=e1.trans (fun b hb _=>w1.rl b (e1.R b hb)) (set_same (by omega) (fun h=>by omega)).ext
 refine ⟨setC X1 X.nx (.box t cs) ⟨.pointer (some ⟨X.w.heap.size,0,none⟩),fun n=>n=X.w.heap.size,.u8⟩ (X.nx+1),eZ,?_,by show hput _ _ X1.hp=_;rw [xh],rfl,x1,?_⟩
 ·exact setBox_rel' (t':=t') (arr:=arr) w1 (by omega) (by omega) (fun h=>by omega) hF (by rw [x1];exact hnew) hl (fun j c u hj hu=>hc _ eZ (Nat.lt_succ_self _) (by simp) j c u hj hu) htg
 ·exact .ptr _ _ _ (Nat.lt_succ_self _) ⟨X.w.heap.size,by simp,rfl⟩
def CellO (w:World) (R:Nat→Prop) (q:Bool) (cd:CD) (u:Value) (F:Nat→Prop):Prop:=if q then Own w cd u F else Rep w R cd u∧∀ b,¬ F b
theorem CellO.rep {w:World} {R R':Nat→Prop} {q:Bool} {cd:CD} {u:Value} {F:Nat→Prop} (h:CellO w R q cd u F) (hR:∀ b,R b→R' b) (hF:∀ b,F b→R' b):Rep w R' cd u:=by
 cases q with
 | true=>exact Own.rep h hF
 | false=>exact h.1.mono hR
theorem CellO.keep {w w':World} {R R':Nat→Prop} {q:Bool} {cd:CD} {u:Value} {F:Nat→Prop} (h:CellO w R q cd u F) (hw:∀ b,F b→w'.heap[b]?=w.heap[b]?) (hR:∀ b,R b→b < w.heap.size→w'.heap[b]?=w.heap[b]?) (hRR:∀ b,R b→R' b):CellO w' R' q cd u F:=by
 cases q with
 | true=>exact Own.keep h hw
 | false=>exact ⟨(h.1.keep hR).mono hRR,h.2⟩
structure CellsO (w:World) (R:Nat→Prop) (q:Bool) (cds:List CD) (us:List Value) (fs:Nat→Nat→Prop):Prop where
 len:cds.length=us.length
 rel:∀ (k:Nat) (cd:CD) (u:Value),cds[k]?=some cd→us[k]?=some u→CellO w R q cd u (fs k)
 dis:∀ j k b,j < us.length→k < us.length→fs j b→fs k b→j=k
theorem OwnO.mk {w:World} {R:Nat→Prop} {q:Bool} {e:TypeId} {n:Nat} {els:List (List CD)} {v:Value} {xs:List Value} {fs:Nat→Nat→Prop} {F:Nat→Prop} (ho:ownR w e n v els.length xs) (hn:∀ row∈els,row.length=n)
  (hc:CellsO w R q els.flatten xs fs) (hb:∀ k b,k < xs.length→fs k b→v.ownBlock≠some b) (hF:∀ b,F b↔v.ownBlock=some b∨∃ k,k < xs.length∧fs k b):OwnO w R q (.sl e n els) v F:=by
 cases q with
 | true=>exact Own.sl e n els v xs fs F ho hn hc.rel hb hc.dis hF
 | false =>
  refine ⟨xs,ho,hn,fun k cd u hk hu=>(hc.rel k cd u hk hu).1,fun b=>(hF b).trans ⟨fun h=>?_,.inl⟩⟩
  rcases h with h | ⟨k,hk,h⟩
  ·exact h
  ·exact absurd h ((hc.rel k _ _ (List.getElem?_eq_getElem (by rw [hc.len];exact hk)) (List.getElem?_eq_getElem hk)).2 b)
theorem OwnO.open {w:World} {R:Nat→Prop} {q:Bool} {e:TypeId} {n:Nat} {els:List (List CD)} {v:Value} {F:Nat→Prop} (h:OwnO w R q (.sl e n els) v F) :
  ∃ xs fs,ownR w e n v els.length xs∧(∀ row∈els,row.length=n)∧CellsO w R q els.flatten xs fs∧(∀ k b,k < xs.length→fs k b→v.ownBlock≠some b)∧∀ b,F b↔v.ownBlock=some b∨∃ k,k < xs.length∧fs k b:=by
 cases q with
 | true =>
  have h:Own w (.sl e n els) v F:=h
  cases h with
  | sl _ _ _ _ xs fs _ ho hn hr hb hd hF=>exact ⟨xs,fs,ho,hn,⟨by rw [flatten_len hn,ho.1],hr,hd⟩,hb,hF⟩
 | false =>
  obtain ⟨xs,ho,hn,hr,hF⟩:=h
  exact ⟨xs,fun _ _=>False,ho,hn,⟨by rw [flatten_len hn,ho.1],fun k cd u hk hu=>⟨hr k cd u hk hu,fun _ h=>h⟩,fun _ _ _ _ _ h=>h.elim⟩,fun _ _ _ h=>h.elim,fun b=>(hF b).trans ⟨.inl,fun h=>h.resolve_right fun ⟨_,_,h⟩=>h⟩⟩
theorem asL_cell {k:K} {c:AV} {u:Value} {F:Nat→Prop} {l:List k.den} {q:Bool} (h:asL k c=some (l,q)) (hc:RelA X c u F):u.oneCell'=true∧(q=true→Own X.w (dataCD X.ety ⟨k,l⟩) u F)∧Rep X.w (fun b=>X.R b∨F b) (dataCD X.ety ⟨k,l⟩) u:=by
 have nilO:∀ F:Nat→Prop,(∀ b,¬ F b)→Own X.w (dataCD X.ety ⟨k,[]⟩) (.slice none 0 0) F:=fun F hF=>by
  show Own X.w (.sl (X.ety k) k.esz []) _ _
  exact .sl _ _ [] _ [] (fun _ _=>False) _ ⟨by simp,.inl ⟨rfl,rfl⟩⟩ (fun r h=>by simp at h) (fun k cd u h=>by simp at h) (fun k b h=>by simp at h) (fun k k' b h=>by simp at h) (fun b=>by simp [Value.ownBlock,hF b])
 cases hc with
 | own o d v F h' =>
  cases hd:d.asK k with
  | none=>simp [asL,hd] at h
  | some l' =>
   simp [asL,hd] at h
   obtain ⟨rfl,rfl⟩:=h
   have:=asK_eq hd
   subst this
   obtain ⟨xs,hx⟩:=h'.own
   obtain ⟨A,cap,e,_⟩:=own_shape hx
   refine ⟨by rw [e];rfl,fun hq=>by subst hq;exact h',?_⟩
   cases o with
   | true=>exact Own.rep h' fun b hb=>.inr hb
   | false=>exact OwnS.rep h' (fun b hb=>.inr hb) (fun b hb=>.inl hb)
 | pl c v F h' hF =>
  cases h' with
  | dat d v hr =>
   cases hd:d.asK k with
   | none=>simp [asL,hd] at h
   | some l' =>
    simp [asL,hd] at h
    obtain ⟨rfl,rfl⟩:=h
    have:=asK_eq hd
    subst this
    obtain ⟨A,cap,e,_⟩:=dat_shape (X:=X) (.dat _ u hr)
    exact ⟨by rw [e];rfl,(fun hq=>by cases hq),hr.mono fun b hb=>.inl hb⟩
  | nilS =>
   simp [asL] at h
   obtain ⟨rfl,rfl⟩:=h
   exact ⟨rfl,fun _=>nilO F hF,(nilO F hF).rep fun b hb=>.inr hb⟩
  | _=>simp [asL] at h
 | _=>simp [asL] at h
def CellJ (X:Ctx) (q:Bool) (cd:CD) (u:Value) (F:Nat→Prop):Prop:=u.oneCell'=true∧(q=true→Own X.w cd u F)∧Rep X.w (fun b=>X.R b∨F b) cd u
theorem sc_cell {c:AV} {u:Value} {F:Nat→Prop} {q:Bool} (hp:scR0 c=true) (hn:c≠.nilS) (hv:∀ v,c≠.val v) (hc:RelA X c u F) (he:∀ b,c≠.err b:=by simp):CellJ X q (cellCD X.ety c) u F:=by
 cases hc with
 | pl c v F h hF =>
  cases h<;>first | (cases hp;done) | exact absurd rfl hn | exact absurd rfl (hv _) | exact absurd rfl (he _) | exact ⟨rfl,fun _=>.sc _ _ hF,.sc _⟩
 | _=>cases hp
theorem CellJ.weak {q q':Bool} {cd:CD} {u:Value} {F:Nat→Prop} (h:CellJ X q cd u F) (hq:q'=true→q=true):CellJ X q' cd u F:=⟨h.1,fun e=>h.2.1 (hq e),h.2.2⟩
theorem elemMk_cells {k:K} {cs:List AV} {x:k.den} {q:Bool} (h:elemMk k cs=some (x,q)):cs.length=(elemCD X.ety k x).length ∧
  ∀ (j:Nat) (c:AV) (cd:CD) (u:Value) (F:Nat→Prop),(elemCD X.ety k x)[j]?=some cd→cs[j]?=some c→RelA X c u F→CellJ X q cd u F:=by
 have cons:∀ {cs:List AV} {ds:List CD} {q:Bool},(cs.length=ds.length∧∀ (j:Nat) (c:AV) (cd:CD) (u:Value) (F:Nat→Prop),ds[j]?=some cd→cs[j]?=some c→RelA X c u F→CellJ X q cd u F)→∀ {c:AV} {d:CD},
   (∀ (u:Value) (F:Nat→Prop),RelA X c u F→CellJ X q d u F)→((c :: cs).length=(d :: ds).length∧∀ (j:Nat) (x:AV) (cd:CD) (u:Value) (F:Nat→Prop),(d :: ds)[j]?=some cd→(c :: cs)[j]?=some x→RelA X x u F→CellJ X q cd u F):=by
  intro cs ds q h c d hcd
  refine ⟨by simp [h.1],fun j x cd u F h1 h2 hr=>?_⟩
  cases j with
  | zero=>simp at h1 h2;subst h1;subst h2;exact hcd u F hr
  | succ j=>exact h.2 j x cd u F (by simpa using h1) (by simpa using h2) hr
 have nil:∀ {q:Bool},(([]:List AV).length=([]:List CD).length∧∀ (j:Nat) (c:AV) (cd:CD) (u:Value) (F:Nat→Prop),([]:List CD)[j]?=some cd→([]:List AV)[j]?=some c→RelA X c u F→CellJ X q cd u F):=⟨rfl,fun j c cd u F h=>by simp at h⟩
 have pu:∀ {q:Bool} {b:UInt8} (u:Value) (F:Nat→Prop),RelA X (.u8 b) u F→CellJ X q (.sc (.int .u8 (UInt8.toNat b:Nat))) u F:=fun u F h=>sc_cell rfl (by simp) (by simp) h
 have ps:∀ {q:Bool} {l:Str} (u:Value) (F:Nat→Prop),RelA X (.str l) u F→CellJ X q (.sc (sv l)) u F:=fun u F h=>sc_cell rfl (by simp) (by simp) h
 have pi:∀ {q:Bool} {n:Int} (u:Value) (F:Nat→Prop),RelA X (.int .i64 n) u F→CellJ X q (.sc (.int .i64 n)) u F:=fun u F h=>sc_cell rfl (by simp) (by simp) h
 have pb:∀ {q:Bool} {b:Bool} (u:Value) (F:Nat→Prop),RelA X (.bool b) u F→CellJ X q (.sc (.bool b)) u F:=fun u F h=>sc_cell rfl (by simp) (by simp) h
 have pd:∀ {k:K} {c:AV} {l:List k.den} {q q':Bool},asL k c=some (l,q)→(q'=true→q=true)→∀ (u:Value) (F:Nat→Prop),RelA X c u F→CellJ X q' (dataCD X.ety ⟨k,l⟩) u F :=
  fun h hq u F hr=>CellJ.weak (asL_cell h hr) hq
 have pn:∀ {c:AV} {l:List Node} {q q':Bool},asL .node c=some (l,q)→(q'=true→q=true)→∀ (u:Value) (F:Nat→Prop),RelA X c u F→CellJ X q' (.sl (X.ety .node) 6 (nodesCD X.ety l)) u F:=by
  intro c l q q' h hq u F hr
  rw [nodesCD_map]
  exact pd h hq u F hr
 unfold elemMk at h
 split at h
 ·cases h;exact cons nil pu
 ·cases h;exact cons nil ps
 ·cases h;exact cons nil pi
 ·cases h;exact cons nil pb
 ·cases h;exact cons (cons nil ps) ps
 ·split at h
  ·rename_i h1 h2
   cases h
   rw [show elemCD X.ety .node _=_ from nodeCD_eq X.ety _]
   exact cons (cons (cons (cons (cons (cons nil (pd h2 (by simp))) (pd h1 (by simp +contextual))) ps) ps) pi) pi
  ·cases h
 ·split at h
  ·rename_i h1
   cases h
   exact cons (cons (cons nil (pd h1 (by simp))) ps) pi
  ·cases h
 ·split at h
  ·rename_i h1 h2 h3 h4 h5
   cases h
   exact cons (cons (cons (cons (cons (cons (cons (cons (cons nil pb) pb) (pd h5 (by simp +contextual))) (pd h4 (by simp +contextual))) (pd h3 (by simp +contextual))) (pd h2 (by simp +contextual))) (pd h1 (by simp +contextual))) pb) pb
  ·cases h
 ·split at h
  ·rename_i h1
   cases h
   exact cons (cons nil (pn h1 (by simp))) ps
  ·cases h
 ·split at h
  ·rename_i h1
   cases h
   exact cons (cons (cons (cons (cons (cons nil ps) ps) (pd h1 (by simp))) pi) pi) pi
  ·cases h
 ·cases h;exact cons (cons nil ps) pi
 ·split at h
  ·rename_i h1
   cases h
   exact cons (cons (cons (cons (cons (cons (cons nil pb) (pd h1 (by simp))) ps) ps) pi) pi) pi
  ·cases h
 ·cases h;exact cons (cons nil pi) ps
 ·split at h
  ·rename_i h1
   cases h
   exact cons nil (pn h1 (by simp))
  ·cases h
 ·cases h
end
end Go.Ab
namespace Go.Ab
open Go
variable [GI]
section
variable {P:Program} {E:Env} {X Y Z:Ctx} {G:Beg} {o:Oper} {a:Act}
structure CellsJ (X:Ctx) (G:Beg) (q:Bool) (cds:List CD) (us:List Value) (fs:Nat→Nat→Prop):Prop where
 len:cds.length=us.length
 rel:∀ (k:Nat) (cd:CD) (u:Value),cds[k]?=some cd→us[k]?=some u→CellJ X q cd u (fs k)
 dis:∀ j k b,j < us.length→k < us.length→fs j b→fs k b→j=k
 free:∀ k,k < us.length→Free X G (fs k)
theorem Own.ext {cd:CD} {u:Value} {F:Nat→Prop} (h:Own X.w cd u F) (hw:Y.w=X.w):Own Y.w cd u F:=by rw [hw];exact h
theorem CellJ.step {q:Bool} {cd:CD} {u:Value} {F:Nat→Prop} (h:CellJ X q cd u F) (hs:Same X Y):CellJ Y q cd u F :=
 ⟨h.1,fun hq=>by rw [hs.w];exact h.2.1 hq,by rw [hs.w,hs.R];exact h.2.2⟩
theorem CellsJ.nil {q:Bool}:CellsJ X G q [] [] (fun _ _=>False):=⟨rfl,fun k cd u h=>by simp at h,fun j k b h=>absurd h (Nat.not_lt_zero _),fun k h=>absurd h (Nat.not_lt_zero _)⟩
theorem CellsJ.weak {q q':Bool} {cds:List CD} {us:List Value} {fs:Nat→Nat→Prop} (h:CellsJ X G q cds us fs) (hq:q'=true→q=true):CellsJ X G q' cds us fs :=
 ⟨h.len,fun k cd u h1 h2=>(h.rel k cd u h1 h2).weak hq,h.dis,h.free⟩
theorem CellsJ.step {q:Bool} {cds:List CD} {us:List Value} {fs:Nat→Nat→Prop} {F:Nat→Prop} (h:CellsJ X G q cds us fs) (hs:Same X Y) (hf:Foot X Y F) (hd:∀ j b,j < us.length→fs j b→¬ F b):CellsJ Y G q cds us fs :=
 ⟨h.len,fun k cd u h1 h2=>(h.rel k cd u h1 h2).step hs,h.dis,fun k hk=>(h.free k hk).foot hf hs.w hs.R fun b h1 h2=>hd k b hk h1 h2⟩
def appF (n:Nat) (fs gs:Nat→Nat→Prop):Nat→Nat→Prop:=fun k=>if k < n then fs k else gs (k - n)
theorem CellsJ.append {q:Bool} {cds ds:List CD} {us vs:List Value} {fs gs:Nat→Nat→Prop} (h:CellsJ X G q cds us fs) (k:CellsJ X G q ds vs gs) (hd:∀ j i b,j < us.length→i < vs.length→fs j b→gs i b→False) :
  CellsJ X G q (cds++ds) (us++vs) (appF us.length fs gs):=by
 have e1:∀ j,j < us.length→appF us.length fs gs j=fs j:=fun j hj=>if_pos hj
 have e2:∀ j,¬ j < us.length→appF us.length fs gs j=gs (j - us.length):=fun j hj=>if_neg hj
 refine ⟨by simp [h.len,k.len],fun j cd u h1 h2=>?_,fun i j b hi hj h1 h2=>?_,fun j hj=>?_⟩
 ·by_cases hj:j < us.length
  ·rw [e1 j hj]
   rw [List.getElem?_append_left (by rw [h.len];exact hj)] at h1
   rw [List.getElem?_append_left hj] at h2
   exact h.rel j cd u h1 h2
  ·rw [e2 j hj]
   rw [List.getElem?_append_right (by rw [h.len];omega)] at h1
   rw [List.getElem?_append_right (by omega)] at h2
   rw [h.len] at h1
   exact k.rel _ cd u h1 h2
 ·simp only [List.length_append] at hi hj
  by_cases hi':i < us.length
  ·rw [e1 i hi'] at h1
   by_cases hj':j < us.length
   ·rw [e1 j hj'] at h2
    exact h.dis i j b hi' hj' h1 h2
   ·rw [e2 j hj'] at h2
    exact (hd i (j - us.length) b hi' (by omega) h1 h2).elim
  ·rw [e2 i hi'] at h1
   by_cases hj':j < us.length
   ·rw [e1 j hj'] at h2
    exact (hd j (i - us.length) b hj' (by omega) h2 h1).elim
   ·rw [e2 j hj'] at h2
    have:=k.dis _ _ b (by omega) (by omega) h1 h2
    omega
 ·simp only [List.length_append] at hj
  by_cases hj':j < us.length
  ·rw [e1 j hj'];exact h.free j hj'
  ·rw [e2 j hj'];exact k.free _ (by omega)
def TakenE (X:Ctx) (G:Beg) (hp:Hp) (q:Bool) (cds:List CD) (us:List Value):Prop :=
 ∃ fs,WRel { X with hp:=hp } G∧Same X { X with hp:=hp }∧Foot X { X with hp:=hp } (fun _=>False)∧CellsJ { X with hp:=hp } G q cds us fs∧∀ j b,j < us.length→fs j b→∃ id,live X id∧(X.ob id).F b
theorem elem_cells (hw:WRel X G) {cs:List AV} {us:List Value} (hl:cs.length=us.length) (hr:∀ (j:Nat) (c:AV) (u:Value),cs[j]?=some c→us[j]?=some u→RelV X c u) {k:K} {x:k.den} {q:Bool} (hm:elemMk k (takeL cs X.hp).1=some (x,q)) :
  TakenE X G (takeL cs X.hp).2 q (elemCD X.ety k x) us:=by
 obtain ⟨fs,h1,h2,h3,h4,h5⟩:=takeL_rel hw hl hr
 obtain ⟨e1,e2⟩:=elemMk_cells (X:={ X with hp:=(takeL cs X.hp).2 }) hm
 refine ⟨fs,h1,h2,h3,⟨by rw [← e1];exact h4.len,fun j cd u hj hu=>?_,fun j k b hj hk=>h4.dis j k b (by rw [h4.len];exact hj) (by rw [h4.len];exact hk),fun j hj=>h4.free j (by rw [h4.len];exact hj)⟩,fun j b hj=>h5 j b (by rw [h4.len];exact hj)⟩
 have hlt:j < (takeL cs X.hp).1.length:=by rw [h4.len];exact (List.getElem?_eq_some_iff.1 hu).1
 exact e2 j _ cd u _ hj (List.getElem?_eq_getElem hlt) (h4.rel j _ u (List.getElem?_eq_getElem hlt) hu)
theorem elem_rel (hw:WRel X G) {v:AV} {u:Value} (hv:RelV X v u) {k:K} {x:k.den} {q:Bool} (hm:elemMk k (takeL (cellsOf v) X.hp).1=some (x,q)) :
  TakenE X G (takeL (cellsOf v) X.hp).2 q (elemCD X.ety k x) u.cells.toList∧∀ c∈u.cells.toList,c.oneCell'=true:=by
 have main:∀ us:List Value,(cellsOf v).length=us.length→(∀ (j:Nat) (c:AV) (u:Value),(cellsOf v)[j]?=some c→us[j]?=some u→RelV X c u)→TakenE X G (takeL (cellsOf v) X.hp).2 q (elemCD X.ety k x) us∧∀ c∈us,c.oneCell'=true:=by
  intro us hl hr
  have h:=elem_cells hw hl hr hm
  refine ⟨h,fun c hc=>?_⟩
  obtain ⟨fs,_,_,_,h4,_⟩:=h
  obtain ⟨j,hj,rfl⟩:=List.getElem_of_mem hc
  exact (h4.rel j _ _ (List.getElem?_eq_getElem (by rw [h4.len];exact hj)) (List.getElem?_eq_getElem hj)).1
 by_cases hc:∃ cs,v=.agg cs
 ·obtain ⟨cs,rfl⟩:=hc
  cases hv with
  | agg cs vs hl hr=>exact main vs.toList (by simpa [cellsOf] using hl) (fun j c u hj hu=>hr j c u hj (by simpa using hu))
 ·have e:cellsOf v=[v]:=by cases v<;>first | rfl | exact absurd ⟨_,rfl⟩ hc
  have:=main [u] (by rw [e];rfl) (fun j c u' hj hu=>by
   rw [e] at hj
   cases j with
   | zero=>simp at hj hu;subst hj;subst hu;exact hv
   | succ j=>simp at hj)
  have h1:u.cells.toList=[u]:=by rw [one_cells (this.2 u (by simp))]
  rw [h1]
  exact this
theorem TakenE.cons {h1 h2:Hp} {q q':Bool} {cds ds:List CD} {us vs:List Value} (h:TakenE X G h1 q cds us) (k:TakenE { X with hp:=h1 } G h2 q' ds vs):TakenE X G h2 (q&&q') (cds++ds) (us++vs):=by
 obtain ⟨fs,a1,a2,a3,a4,a5⟩:=h
 obtain ⟨gs,b1,b2,b3,b4,b5⟩:=k
 have hd:∀ j i b,j < us.length→i < vs.length→fs j b→gs i b→False:=fun j i b hj hi e1 e2=>by
  obtain ⟨id,l1,l2⟩:=b5 i b hi e2
  exact (a4.free j hj).nl id b l1 l2 e1
 refine ⟨appF us.length fs gs,b1,a2.trans b2,(a3.trans b3).mono (fun b h=>h.elim id id),((a4.step b2 b3 fun _ _ _ _ h=>h).weak (by simp +contextual)).append (b4.weak (by simp +contextual)) hd,fun j b hj hf=>?_⟩
 simp only [List.length_append] at hj
 unfold appF at hf
 split at hf
 ·rename_i hj'
  exact a5 j b hj' hf
 ·obtain ⟨id,l1,l2⟩:=b5 _ b (by omega) hf
  exact (a3 id b l1 l2).resolve_right (fun h=>h)
theorem mkElems_rel {k:K} {len:Nat}:∀ {l:List (Nat × AV)} {vs:List Value} {i:Nat} {X:Ctx} {xs:List k.den} {q:Bool} {hp:Hp},WRel X G→l.length=vs.length→(∀ (j:Nat) (p:Nat × AV) (u:Value),l[j]?=some p→vs[j]?=some u→RelV X p.2 u) →
  mkElems k len i l X.hp=some (xs,q,hp)→i+l.length=len∧xs.length=l.length∧(∀ (j:Nat) (p:Nat × AV),l[j]?=some p→p.1=i+j)∧(∀ v∈vs,v.cells.size=k.esz∧∀ c∈v.cells.toList,c.oneCell'=true) ∧
   TakenE X G hp q (xs.map (elemCD X.ety k)).flatten (vs.map (·.cells.toList)).flatten
 | [],[],i,X,xs,q,hp,hw,_,_,h=>by
  simp only [mkElems] at h
  split at h
  ·rename_i hi
   cases h
   exact ⟨hi,rfl,(fun j p hj=>by simp at hj),(fun v hv=>by cases hv),fun _ _=>False,hw,.refl X,.refl X,.nil,fun _ _ h=>absurd h (Nat.not_lt_zero _)⟩
  ·cases h
 | (j0,v) :: l,u :: vs,i,X,xs,q,hp,hw,hl,hr,h=>by
  simp only [mkElems] at h
  split at h
  rotate_left
  ·cases h
  rename_i hij
  cases hm:elemMk k (takeL (cellsOf v) X.hp).1 with
  | none=>rw [hm] at h;cases h
  | some xo =>
  obtain ⟨x,o⟩:=xo
  rw [hm] at h
  simp only at h
  obtain ⟨ht,h1⟩:=elem_rel hw (hr 0 (j0,v) u rfl rfl) hm
  cases hn:mkElems k len (i+1) l (takeL (cellsOf v) X.hp).2 with
  | none=>rw [hn] at h;cases h
  | some yo =>
  obtain ⟨ys,o',hp'⟩:=yo
  rw [hn] at h
  simp only [Option.some.injEq,Prod.mk.injEq] at h
  obtain ⟨rfl,rfl,rfl⟩:=h
  have ht':=ht
  obtain ⟨fs,a1,a2,_,a4,_⟩:=ht
  obtain ⟨i1,i2,i3,i4,i5⟩:=mkElems_rel (X:={ X with hp:=(takeL (cellsOf v) X.hp).2 }) a1 (by simpa using hl) (fun j p u hj hu=>(hr (j+1) p u (by simpa using hj) (by simpa using hu)).ext a2.ext) hn
  refine ⟨by simp only [List.length_cons];omega,by simp [i2],fun j p hj=>?_,fun v' hv'=>?_,?_⟩
  ·cases j with
   | zero=>simp at hj;subst hj;exact hij.symm
   | succ j=>rw [i3 j p (by simpa using hj)];omega
  ·cases hv' with
   | head=>exact ⟨by rw [← Array.length_toList,← a4.len,elemCD_len],h1⟩
   | tail _ hv'=>exact i4 v' hv'
  ·simp only [List.map_cons,List.flatten_cons]
   exact ht'.cons i5
end
end Go.Ab
namespace Go.Ab
open Go
variable [GI]
section
variable {P:Program} {E:Env} {X Y Z:Ctx} {G:Beg} {o:Oper} {a:Act}
theorem ownR.blk {w:World} {e:TypeId} {size:Nat} {v:Value} {n:Nat} {xs:List Value} (h:ownR w e size v n xs):v.ownBlock=none∨∃ b,v.ownBlock=some b∧b < w.heap.size:=by
 rcases h.2 with ⟨rfl,_⟩ | ⟨g,cap,cur,fz,rfl,⟨e',hg,_⟩,_⟩
 ·exact .inl rfl
 ·exact .inr ⟨g,rfl,lt_of_heap hg⟩
theorem makerow (hw:WRel X G) {k:K} {xs:List k.den} {q:Bool} {us:List Value} {fs:Nat→Nat→Prop} (hc:CellsJ X G q (xs.map (elemCD X.ety k)).flatten us fs) {B:Nat→Prop} (hB:Free X G B) {w':World} (hk:Keep B X.w w')
  (hBf:∀ j b,j < us.length→fs j b→¬ B b) {v:Value} (ho:ownR w' (X.ety k) k.esz v xs.length us) (hv:∀ b,v.ownBlock=some b→B b∨X.w.heap.size≤b) {id nx:Nat} (hn:X.nx≤nx) (hid:id < nx) (hold:id < X.nx→v=(X.ob id).v∧k=(X.ob id).k) :
  ∃ X',Ext X X'∧WRel X' G∧X'.hp=hput id (.row q ⟨k,xs⟩) X.hp∧X'.nx=nx∧X'.w=w'∧RelV X' (.row id) v:=by
 let Fs:Nat→Prop:=fun b=>∃ j,j < us.length∧fs j b
 have hFs:Free X G Fs:=⟨fun b ⟨j,hj,hb⟩=>(hc.free j hj).nr b hb,fun i b h1 h2 ⟨j,hj,hb⟩=>(hc.free j hj).nl i b h1 h2 hb,fun b ⟨j,hj,hb⟩=>(hc.free j hj).lt b hb,fun b ⟨j,hj,hb⟩=>(hc.free j hj).ok b hb⟩
 let Fa:Nat→Prop:=fun b=>B b∨Fs b
 have hFa:Free X G Fa:=⟨fun b h=>h.elim (hB.nr b) (hFs.nr b),fun i b h1 h2 h=>h.elim (hB.nl i b h1 h2) (hFs.nl i b h1 h2),fun b h=>h.elim (hB.lt b) (hFs.lt b),fun b h=>h.elim (hB.ok b) (hFs.ok b)⟩
 let R':Nat→Prop:=fun b=>X.R b∨(q=false∧Fs b)
 have hka:Keep Fa X.w w':=hk.mono fun _ h=>.inl h
 have hRs:∀ b,X.R b→R' b:=fun b h=>.inl h
 have e1:=world_ext (R':=R') hFa hka hRs
 have w1:=world_rel hw hFa hka hRs (fun b h=>h.elim .inl fun h=>.inr (.inr (.inr h.2))) (fun b h=>Nat.lt_of_lt_of_le (h.elim (hw.rl b) fun h=>hFs.lt b h.2) hk.size)
 generalize hX1:({ X with w:=w',R:=R' }:Ctx)=X1 at *
 have xw:X1.w=w':=by rw [← hX1]
 have xR:X1.R=R':=by rw [← hX1]
 have xh:X1.hp=X.hp:=by rw [← hX1]
 have xn:X1.nx=X.nx:=by rw [← hX1]
 have xe:X1.ety=X.ety:=by rw [← hX1]
 have xo:∀ i,X1.ob i=X.ob i:=fun i=>by rw [← hX1]
 have xl:∀ i,live X1 i→live X i:=fun i h=>by rw [← hX1] at h;exact h
 let fq:Nat→Nat→Prop:=fun j b=>q=true∧fs j b
 let F':Nat→Prop:=fun b=>v.ownBlock=some b∨∃ j,j < us.length∧fq j b
 have hF':Free X1 G F':=by
  refine ⟨fun b hb hR=>?_,fun i b h1 h2 hb=>?_,fun b hb=>?_,fun b hb=>?_⟩
  ·rw [xR] at hR
   rcases hb with hb | ⟨j,hj,hq,hb⟩
   ·rcases hv b hb with h | h
    ·rcases hR with hR | ⟨_,j,hj,hR⟩
     ·exact hB.nr b h hR
     ·exact hBf j b hj hR h
    ·rcases hR with hR | ⟨_,hR⟩
     ·have:=hw.rl b hR;omega
     ·have:=hFs.lt b hR;omega
   ·rcases hR with hR | ⟨hq',_⟩
    ·exact (hc.free j hj).nr b hb hR
    ·rw [hq] at hq';cases hq'
  ·rw [xo] at h2
   have hl:=xl i h1
   rcases hb with hb | ⟨j,hj,_,hb⟩
   ·rcases hv b hb with h | h
    ·exact hB.nl i b hl h2 h
    ·have:=live_lt_heap hw hl h2;omega
   ·exact (hc.free j hj).nl i b hl h2 hb
  ·rw [xw]
   rcases hb with hb | ⟨j,hj,_,hb⟩
   ·exact ho.lt hb
   ·exact Nat.lt_of_lt_of_le ((hc.free j hj).lt b hb) hk.size
  ·rcases hb with hb | ⟨j,hj,_,hb⟩
   ·rcases hv b hb with h | h
    ·exact hB.ok b h
    ·exact .inl (Nat.le_trans hw.kp.size h)
   ·exact (hc.free j hj).ok b hb
 have hfree:∀ b,Fs b→w'.heap[b]?=X.w.heap[b]?:=fun b hb=>by
  obtain ⟨j,hj,hb'⟩:=hb
  exact hk.block b ((hc.free j hj).lt b hb') (hBf j b hj hb')
 have hown:OwnO X1.w X1.R q (dataCD X1.ety ⟨k,xs⟩) v F':=by
  rw [xe,xw,xR]
  refine OwnO.mk (fs:=fq) (by rw [List.length_map];exact ho) (fun row hr=>?_) ⟨hc.len,fun j cd u hj hu=>?_,fun i j b hi hj h1 h2=>hc.dis i j b hi hj h1.2 h2.2⟩ (fun j b hj hb e=>?_) (fun b=>Iff.rfl)
  ·obtain ⟨x,_,rfl⟩:=List.mem_map.1 hr
   exact elemCD_len X.ety k x
  ·have hlt:j < us.length:=(List.getElem?_eq_some_iff.1 hu).1
   obtain ⟨_,c1,c2⟩:=hc.rel j cd u hj hu
   cases q with
   | true =>
    have hq:fq j=fs j:=funext fun b=>propext ⟨fun h=>h.2,fun h=>⟨rfl,h⟩⟩
    rw [hq]
    exact Own.keep (c1 rfl) fun b hb=>hfree b ⟨j,hlt,hb⟩
   | false =>
    refine ⟨(Rep.keep c2 fun b hb hs=>?_).mono fun b hb=>?_,fun b hb=>by cases hb.1⟩
    ·rcases hb with hb | hb
     ·exact hk.block b hs fun h=>hB.nr b h hb
     ·exact hfree b ⟨j,hlt,hb⟩
    ·exact hb.imp (fun h=>h) fun hb=>⟨rfl,j,hlt,hb⟩
  ·rcases hv b e with h | h
   ·exact hBf j b hj hb.2 h
   ·have:=(hc.free j hj).lt b hb.2
    omega
 have hold1:id < X1.nx→v=(X1.ob id).v∧k=(X1.ob id).k:=fun h=>by rw [xo];exact hold (by rw [← xn];exact h)
 refine ⟨setC X1 id (.row q ⟨k,xs⟩) ⟨v,F',k⟩ nx,e1.trans (fun b hb _=>w1.rl b (e1.R b hb)) (set_same (by omega) hold1).ext,setRow_rel (d:=⟨k,xs⟩) w1 (by omega) hid hold1 hF' hown,by show hput _ _ X1.hp=_;rw [xh],rfl,xw,.row _ _ hid (by simp)⟩
theorem newrow (hw:WRel X G) {k:K} {xs:List k.den} {q:Bool} {us:List Value} {fs:Nat→Nat→Prop} (hc:CellsJ X G q (xs.map (elemCD X.ety k)).flatten us fs) {w':World} {e:TypeId} {arr:Array Value} {fz:Nat × Nat} {cap:Nat}
  (hk:Keep (fun _=>False) X.w w') (hb:w'.heap[X.w.heap.size]?=some (.cells arr e fz)) (htg:X.ety k=0∨e=X.ety k) (hfz:Unf k.esz arr.size fz) (hn:xs.length≤cap) (hm:cap≤maxLen) (hs:arr.size=cap * k.esz) (ht:arr.toList.take (xs.length * k.esz)=us) :
  ∃ X',Ext X X'∧WRel X' G∧X'.hp=hput X.nx (.row q ⟨k,xs⟩) X.hp∧X'.nx=X.nx+1∧X'.w=w'∧RelV X' (.row X.nx) (.slice (some ⟨X.w.heap.size,0,none⟩) xs.length cap):=by
 have hlen:us.length=xs.length * k.esz:=by
  rw [← hc.len,flatten_len (n:=k.esz),List.length_map]
  intro row hr
  obtain ⟨x,_,rfl⟩:=List.mem_map.1 hr
  exact elemCD_len X.ety k x
 refine makerow hw hc .empty hk (fun _ _ _ _ h=>h) ⟨hlen,.inr ⟨X.w.heap.size,cap,arr,fz,rfl,⟨e,hb,htg⟩,hfz,hn,hm,hs,ht⟩⟩ (fun b hb=>?_) (Nat.le_succ _) (Nat.lt_succ_self _) (fun h=>absurd h (Nat.lt_irrefl _))
 simp [Value.ownBlock] at hb
 exact .inr (by omega)
theorem plain_cell {k:K} {x:k.den} {cd:CD} {u:Value} {w:World} {R:Nat→Prop} (hm:cd∈elemCD X.ety k x) (h:Rep w R cd u):u.oneCell'=true:=by
 rw [elemCD_cells] at hm
 obtain ⟨c,hc,rfl⟩:=List.mem_map.1 hm
 have:=elemCells_plain k x c hc
 cases c<;>first | (cases this;done) | (cases h;rfl)
theorem flat_mem {k:K} {xs:List k.den} {j:Nat} {cd:CD} (h:(xs.map (elemCD X.ety k)).flatten[j]?=some cd):∃ x,cd∈elemCD X.ety k x:=by
 have:=List.mem_of_getElem? h
 obtain ⟨row,hr,hm⟩:=List.mem_flatten.1 this
 obtain ⟨x,_,rfl⟩:=List.mem_map.1 hr
 exact ⟨x,hm⟩
theorem openrow (hw:WRel X G) {id:Nat} {v:Value} {q:Bool} {d:Data} (h:RelV X (.row id) v) (hb:hgt X.hp id=.row q d):∃ us fs,WRel (killC X id) G∧ownR X.w (X.ety d.k) d.k.esz v d.l.length us∧CellsJ (killC X id) G q (d.l.map (elemCD X.ety d.k)).flatten us fs ∧
  (∀ j b,j < us.length→fs j b→v.ownBlock≠some b)∧Free (killC X id) G (fun b=>v.ownBlock=some b)∧(∀ b,v.ownBlock=some b∨(∃ j,j < us.length∧fs j b)→(X.ob id).F b)∧(q=false→∀ j b,j < us.length→¬ fs j b):=by
 obtain ⟨hv,hk,ho⟩:=row_val hw h hb
 have hl:live X id:=by unfold live;rw [hb];simp
 have hfree:=kill_free hw hl
 obtain ⟨us,fs,h1,h2,h3,h4,h5⟩:=OwnO.open (show OwnO X.w X.R q (.sl (X.ety d.k) d.k.esz (d.l.map (elemCD X.ety d.k))) v (X.ob id).F from ho)
 rw [List.length_map] at h1
 refine ⟨us,fs,kill_rel hw id,h1,⟨h3.len,fun j cd u hj hu=>?_,h3.dis,fun j hj=>hfree.sub fun b hb=>(h5 b).2 (.inr ⟨j,hj,hb⟩)⟩,h4,hfree.sub fun b hb=>(h5 b).2 (.inl hb),fun b hb=>(h5 b).2 hb,fun hq j b hj=>?_⟩
 ·have hc:=h3.rel j cd u hj hu
  have hr:Rep X.w (fun b=>X.R b∨fs j b) cd u:=hc.rep (fun _ h=>.inl h) (fun _ h=>.inr h)
  obtain ⟨x,hx⟩:=flat_mem hj
  refine ⟨plain_cell hx hr,fun hq=>?_,hr⟩
  subst hq
  exact hc
 ·subst hq
  exact (h3.rel j _ _ (List.getElem?_eq_getElem (by rw [h3.len];exact hj)) (List.getElem?_eq_getElem hj)).2 b
end
end Go.Ab
namespace Go.Ab
open Go
variable [GI]
section
variable {P:Program} {E:Env} {X Y Z:Ctx} {G:Beg} {o:Oper} {a:Act}
def Shows (X:Ctx) (G:Beg) (w':World) (v:AV) (u:Value) (hp:Hp) (nx:Nat):Prop:=∃ X',Ext X X'∧WRel X' G∧X'.hp=hp∧X'.nx=nx∧X'.w=w'∧RelV X' v u
theorem opH_value {v:AV} {hp:Hp} {nx:Nat} {w':World} {u:Value} (hr:(execOp a.eval o).run P X.w=.ok (.value u) w') (h:Shows X G w' v u hp nx):OpH P X G o a v hp nx:=by
 intro K Q hK
 obtain ⟨X',h1,h2,h3,h4,rfl,h6⟩:=h
 unfold Oper.wp
 rw [hr]
 exact hK X' u h1 h2 h3 h4 h6
theorem opH_skip {hp:Hp} {nx:Nat} {w':World} (hr:(execOp a.eval o).run P X.w=.ok .skip w') (h:Shows X G w' .any undef hp nx):OpH P X G o a .any hp nx:=by
 intro K Q hK
 obtain ⟨X',h1,h2,h3,h4,rfl,h6⟩:=h
 unfold Oper.wp
 rw [hr]
 exact hK X' undef h1 h2 h3 h4 h6
theorem Shows.after {w':World} {v:AV} {u:Value} {hp:Hp} {nx:Nat} (s:Same X Y) (hw:WRel Y G) (h:Shows Y G w' v u hp nx):Shows X G w' v u hp nx:=by
 obtain ⟨X',h1,h2⟩:=h
 exact ⟨X',s.ext.trans (fun b hb _=>hw.rl b (s.ext.R b hb)) h1,h2⟩
theorem zr_slf {c:AV} {i:Nat} {T:TypeId} (h:c.zr=.slf i T):c=.slf i T:=by
 unfold AV.zr at h
 split at h
 ·split at h<;>cases h
 ·exact h
theorem cvs_noslf:∀ {cs:List AV} {vs:List Value},cvs cs=some vs→∀ (j i:Nat) (T:TypeId),(cs.map AV.zr)[j]?≠some (.slf i T)
 | [],_,_,j,i,T=>by simp
 | c :: cs,vs,h,j,i,T=>by
  unfold cvs at h
  split at h
  ·rename_i v vs' hv hvs
   cases j with
   | zero =>
    intro e
    simp at e
    rw [zr_slf e] at hv
    cases hv
   | succ j=>exact cvs_noslf hvs j i T
  ·cases h
theorem slfZ_cases (n:Nat) (t:TypeId) (l:List AV):slfZ n t l=l∨∃ r,l=.val (.pointer none) :: r∧slfZ n t l=.slf n t :: r:=by
 unfold slfZ
 split
 ·exact .inr ⟨_,rfl,rfl⟩
 ·exact .inl rfl
theorem noSlf_rel {c:AV} {u:Value} (h:RelV X c u):RelV X (noSlf c) u:=by
 cases c with
 | slf i T=>exact .any _
 | _=>exact h
theorem noSlf_ne (c:AV) (i:Nat) (T:TypeId):noSlf c≠.slf i T:=by
 cases c<;>exact fun h=>by cases h
theorem newbox_shows (hw:WRel X G) {t t':TypeId} {cs:List AV} {arr:Array Value} (hl:arr.size=cs.length) (hc:∀ Y:Ctx,Ext X Y→X.nx < Y.nx→(Y.ob X.nx).v=.pointer (some ⟨X.w.heap.size,0,none⟩)→∀ (j:Nat) (c:AV) (u:Value),cs[j]?=some c→arr[j]?=some u→RelV Y c u) (htg:TagC cs t') :
  Shows X G (X.w.alloc (.cells arr t')) (.ptr X.nx 0) (.pointer (some ⟨X.w.heap.size,0,none⟩)) (hput X.nx (.box t cs) X.hp) (X.nx+1):=by
 obtain ⟨X',h1,h2,h3,h4,h5,h6⟩:=newbox hw (t:=t) (t':=t') hl hc htg
 exact ⟨X',h1,h2,h3,h4,h5,h6⟩
theorem run_newVar (t:TypeId) (v:Value) (w:World):(newVar t v).run P w=.ok ⟨w.heap.size,0,none⟩ (w.alloc (.cells v.cells t)):=by
 simp [newVar,newRow]
theorem alloc_sound (hE:EnvOk P E) (hw:WRel X G) {dst ty pos after gd t} {e:Operand→AV} {p:Option Prop} {v:AV} {hp:Hp} {nx:Nat} (h:stepH E ⟨dst,.alloc t,ty,pos,after,gd⟩ e X.hp X.nx=some (p,v,hp,nx)) :
  OpH P X G ⟨dst,.alloc t,ty,pos,after,gd⟩ a v hp nx:=by
 have main:∀ (zv:Value) (cs:List AV),(∃ i,P.info? t=some i∧i.zero=some zv)→zv.cells.size=cs.length→(∀ Y:Ctx,Ext X Y→X.nx < Y.nx→(Y.ob X.nx).v=.pointer (some ⟨X.w.heap.size,0,none⟩)→∀ (j:Nat) (c:AV) (u:Value),cs[j]?=some c→zv.cells[j]?=some u→RelV Y c u)→TagC cs t →
   some ((none:Option Prop),AV.ptr X.nx 0,hput X.nx (.box t cs) X.hp,X.nx+1)=some (p,v,hp,nx)→OpH P X G ⟨dst,.alloc t,ty,pos,after,gd⟩ a v hp nx:=by
  intro zv cs ⟨i,hi,hz⟩ hl hc htg he
  cases he
  refine opH_value (u:=.pointer (some ⟨X.w.heap.size,0,none⟩)) (w':=X.w.alloc (.cells zv.cells t)) ?_ (newbox_shows hw hl hc htg)
  simp only [execOp,Instr.alloc,Sem.run_bind,run_zero hi hz,Result.andThen_ok,run_newVar,Sem.run_pure]
 have ht:=hE.td t
 simp only [stepH] at h
 split at h
 ·rename_i z htd
  rw [htd] at ht
  obtain ⟨d,zv,hi,hu,ha,hcv,_⟩:=ht
  obtain ⟨i,hi,hz⟩:=info_of hi
  split at h
  ·rename_i hc
   have hr:=cv_rel (X:=X) hcv
   have hone:zv.oneCell'=true:=by
    cases z<;>simp only [cv,Option.some.injEq] at hcv<;>first | (cases hcv;done) | (subst hcv;first | rfl | exact hc)
   refine main zv [z.zr] ⟨i,hi,by simpa using (Prod.mk.inj hz).2⟩ (by rw [one_cells hone];rfl) (fun Y eY _ _ j c u hj hu=>?_) (fun j i T hj=>?_) h
   ·rw [one_cells hone] at hu
    cases j with
    | zero=>simp at hj hu;subst hj;subst hu;exact hr.ext eY
    | succ j=>simp at hj
   ·cases j with
    | zero =>
     simp at hj
     rw [zr_slf hj] at hcv
     cases hcv
    | succ j=>simp at hj
  ·cases h
 ·rename_i n fs z htd
  rw [htd] at ht
  obtain ⟨zs,hs,hz,hcv,hn⟩:=ht
  obtain ⟨i,hi,hz⟩:=info_of hz
  obtain ⟨hl,hr⟩:=cvs_rel (X:=X) hcv
  have hns:=cvs_noslf hcv
  rcases slfZ_cases X.nx t (z.map AV.zr) with e | ⟨r,e1,e⟩
  ·rw [e] at h
   exact main (.agg zs) (z.map AV.zr) ⟨i,hi,hz⟩ (by rw [List.length_map,hl];simp [Value.cells]) (fun Y eY _ _ j c u hj hu=>(hr j c u hj (by simpa [Value.cells] using hu)).ext eY) (fun j i T hj=>absurd hj (hns j i T)) h
  ·rw [e] at h
   rw [e1] at hr hns
   refine main (.agg zs) (.slf X.nx t :: r) ⟨i,hi,hz⟩ (by have:=congrArg List.length e1;rw [List.length_map,hl] at this;simp [Value.cells] at this ⊢;exact this) (fun Y eY hY hv j c u hj hu=>?_) (fun j i T hj=>?_) h
   ·have hu':zs.toList[j]?=some u:=by simpa [Value.cells] using hu
    cases j with
    | zero =>
     cases hj
     have h0:=hr 0 _ u rfl hu'
     cases h0
     exact .slf _ t _ hY ⟨_,hv,.inl rfl⟩
    | succ j=>exact (hr (j+1) c u hj hu').ext eY
   ·cases j with
    | zero=>cases hj;rfl
    | succ j=>exact absurd hj (hns (j+1) i T)
 ·rename_i k htd
  rw [htd] at ht
  obtain ⟨e',hi,_⟩:=ht
  obtain ⟨i,hi,hz⟩:=info_of hi
  refine main (.slice none 0 0) [.nilS] ⟨i,hi,by simpa using (Prod.mk.inj hz).2⟩ rfl (fun Y _ _ _ j c u hj hu=>?_) (fun j i T hj=>?_) h
  ·cases j with
   | zero=>simp [Value.cells] at hj hu;subst hj;subst hu;exact .nilS
   | succ j=>simp at hj
  ·cases j with
   | zero=>cases hj
   | succ j=>simp at hj
 ·cases h
theorem box_sound (hw:WRel X G) {dst ty pos after gd t} {x:Operand} {e:Operand→AV} (hx:RelV X (e x) (a.eval x)) {p:Option Prop} {v:AV} {hp:Hp} {nx:Nat} (h:stepH E ⟨dst,.box t x,ty,pos,after,gd⟩ e X.hp X.nx=some (p,v,hp,nx)) :
  OpH P X G ⟨dst,.box t x,ty,pos,after,gd⟩ a v hp nx:=by
 simp only [stepH] at h
 split at h
 ·rename_i hc
  cases h
  obtain ⟨h1,h2⟩:=cells_rel hw hx hc
  refine opH_value (u:=.pointer (some ⟨X.w.heap.size,0,none⟩)) (w':=X.w.alloc (.cells (a.eval x).cells t)) ?_ (newbox_shows hw (by rw [List.length_map];exact h1) (fun Y eY _ _ j c u hj hu=>?_) (fun j i T hj=>?_))
  rotate_left
  ·rw [List.getElem?_map] at hj
   cases hcj:(cellsOf (e x))[j]? with
   | none=>rw [hcj] at hj;cases hj
   | some d =>
    rw [hcj] at hj
    cases hj
    exact noSlf_rel ((h2 j d u hcj hu).ext eY)
  ·rw [List.getElem?_map] at hj
   cases hcj:(cellsOf (e x))[j]? with
   | none=>rw [hcj] at hj;cases hj
   | some d =>
    rw [hcj] at hj
    exact absurd (Option.some.inj hj) (noSlf_ne d i T)
  simp only [execOp,Instr.box,Sem.run_bind,run_newVar,Result.andThen_ok,Sem.run_pure]
 ·cases h
theorem Shows.row {w':World} {u:Value} {hp:Hp} {nx id:Nat} (h:∃ X',Ext X X'∧WRel X' G∧X'.hp=hp∧X'.nx=nx∧X'.w=w'∧RelV X' (.row id) u):Shows X G w' (.row id) u hp nx:=h
theorem buildSlice_sound (hE:EnvOk P E) (hety:X.ety=E.ety) (hw:WRel X G) {dst ty pos after gd t len} {parts:Array (Nat × Operand)} {e:Operand→AV} (he:∀ x,x∈(Op.buildSlice t len parts).operands.toList→RelV X (e x) (a.eval x)) {p:Option Prop} {v:AV} {hp:Hp} {nx:Nat}
  (h:stepH E ⟨dst,.buildSlice t len parts,ty,pos,after,gd⟩ e X.hp X.nx=some (p,v,hp,nx)):OpH P X G ⟨dst,.buildSlice t len parts,ty,pos,after,gd⟩ a v hp nx:=by
 simp only [stepH] at h
 split at h
 rotate_left
 ·cases h
 rename_i k htd
 split at h
 rotate_left
 ·cases h
 rename_i hlen
 cases hm:mkElems k len 0 (parts.toList.map fun p=>(p.1,e p.2)) X.hp with
 | none=>rw [hm] at h;cases h
 | some r =>
 obtain ⟨xs,q,hp'⟩:=r
 rw [hm] at h
 cases h
 have ht:=hE.td t
 rw [htd] at ht
 obtain ⟨e',_,hu,hsz,_,zv,bb,hzb,_,_,hcv⟩:=ht
 obtain ⟨i,hi,hsz⟩:=info_of hsz
 obtain ⟨i',hi',hzb⟩:=info_of hzb
 rw [hi] at hi'
 cases hi'
 have hz:i.zero=some zv:=by simpa using (Prod.mk.inj hzb).1
 have hop:∀ x∈parts.toList,RelV X (e x.2) (a.eval x.2):=fun x hx=>he x.2 (by simp only [Op.operands];exact List.mem_map_of_mem hx)
 obtain ⟨m1,m2,m3,m4,fs,m5,m6,m7,m8,m9⟩:=mkElems_rel hw (vs:=parts.toList.map fun p=>a.eval p.2) (by simp) (fun j p u hj hu=>by
  rw [List.getElem?_map] at hj hu
  cases hx:parts.toList[j]? with
  | none=>rw [hx] at hj;cases hj
  | some y=>rw [hx] at hj hu;cases hj;cases hu;exact hop y (List.mem_of_getElem? hx)) hm
 simp only [List.length_map] at m1 m2
 generalize hUs:((parts.toList.map fun p=>a.eval p.2).map (·.cells.toList)).flatten=us at m8 m9
 have husl:us.length=len * k.esz:=by
  rw [← m8.len,flatten_len (n:=k.esz),List.length_map,m2]
  ·congr 1
   omega
  ·intro row hr
   obtain ⟨x,_,rfl⟩:=List.mem_map.1 hr
   exact elemCD_len X.ety k x
 have hfill:∀ z:Array Value,∃ arr',Instr.fill (fun i=>some (i * k.esz,k.esz)) ((Array.range (len * k.esz)).map (z[· % z.size]!)) (parts.toList.map fun p=>(p.1,a.eval p.2))=some arr'∧arr'.size=len * k.esz∧arr'.toList=us:=by
  intro z
  obtain ⟨arr',f1,f2,f3⟩:=fill_row (n:=k.esz) (parts.toList.map fun p=>(p.1,a.eval p.2)) 0 ((Array.range (len * k.esz)).map (z[· % z.size]!)) (fun p hp=>by
    obtain ⟨y,hy,rfl⟩:=List.mem_map.1 hp
    exact (m4 _ (List.mem_map_of_mem hy)).1) (fun j p hj=>by
    rw [List.getElem?_map] at hj
    cases hx:parts.toList[j]? with
    | none=>rw [hx] at hj;cases hj
    | some y =>
     rw [hx] at hj
     cases hj
     exact m3 j (y.1,e y.2) (by rw [List.getElem?_map,hx];rfl)) (by simp only [List.length_map,Array.size_map,Array.size_range];rw [m1];exact Nat.le_refl _)
  simp only [Array.size_map,Array.size_range] at f2
  refine ⟨arr',f1,f2,?_⟩
  apply List.ext_getElem?
  intro j
  have:=f3 j
  rw [Array.getElem?_toList,this]
  simp only [List.length_map,Nat.zero_mul,Nat.sub_zero]
  rw [m1]
  have hUs':((parts.toList.map fun p=>(p.1,a.eval p.2)).map (·.2.cells.toList)).flatten=us:=by rw [← hUs];simp [List.map_map,Function.comp_def]
  rw [hUs']
  by_cases hj:j < len * k.esz
  ·rw [if_pos ⟨Nat.zero_le _,hj⟩]
  ·rw [if_neg (fun h=>hj h.2),List.getElem?_eq_none (by omega),Array.getElem?_eq_none (by simp;omega)]
 have hesz:k.esz≤9:=by cases k<;>decide
 have hsmall:¬ (16777216 < len * k.esz):=by
  have:len * k.esz≤65536 * 9:=Nat.mul_le_mul hlen hesz
  omega
 have hrun:∃ arr:Array Value,(Instr.buildSlice t len (parts.map fun p=>(p.1,a.eval p.2))).run P X.w=.ok (.slice (some ⟨X.w.heap.size,0,none⟩) len len) (X.w.alloc (.cells arr e'))∧arr.size=len * k.esz∧arr.toList=us:=by
  by_cases h0:len * k.esz=0
  ·obtain ⟨arr',f1,f2,f3⟩:=hfill #[]
   refine ⟨arr',?_,f2,f3⟩
   simp only [Instr.buildSlice,Sem.run_bind,run_underlying hu,Result.andThen_ok,run_sizeOf' hi,hsz]
   simp only [show (2 ^ 24:Nat)=16777216 by rfl,gt_iff_lt]
   rw [if_neg hsmall,if_pos h0]
   simp only [Array.toList_map,Sem.run_bind,Sem.run_pure,Result.andThen_ok,f1,newRow]
   simp
  ·obtain ⟨arr',f1,f2,f3⟩:=hfill zv.cells
   refine ⟨arr',?_,f2,f3⟩
   simp only [Instr.buildSlice,Sem.run_bind,run_underlying hu,Result.andThen_ok,run_sizeOf' hi,hsz]
   simp only [show (2 ^ 24:Nat)=16777216 by rfl,gt_iff_lt]
   rw [if_neg hsmall,if_neg h0]
   simp only [Array.toList_map,Sem.run_bind,run_zero hi hz,Sem.run_pure,Result.andThen_ok,f1,newRow]
   simp
 obtain ⟨arr,r1,r2,r3⟩:=hrun
 refine opH_value (u:=.slice (some ⟨X.w.heap.size,0,none⟩) len len) (w':=X.w.alloc (.cells arr e')) ?_ (Shows.after m6 m5 (Shows.row ?_))
 ·simp only [execOp]
  rw [show (parts.map fun x=>match x with | (i,x)=>(i,a.eval x))=(parts.map fun p=>(p.1,a.eval p.2)) from rfl]
  simp only [Sem.run_bind,r1,Result.andThen_ok,Sem.run_pure]
 ·have hx:xs.length=len:=by omega
  have:=newrow (X:={ X with hp:=hp' }) m5 m8 (keep_alloc X.w (.cells arr e')) (alloc_new X.w (.cells arr e')) (by show X.ety k=0∨e'=X.ety k;rw [hety];exact hE.tg _ _ htd _ hu) (cap:=len) (.zero _ _) (by omega) (by simp [maxLen];omega) r2 (by rw [hx,← r3,List.take_of_length_le];rw [Array.length_toList];omega)
  rw [hx] at this
  exact this
end
end Go.Ab
namespace Go.Ab
open Go
variable [GI]
section
variable {P:Program} {E:Env} {X Y Z:Ctx} {G:Beg} {o:Oper} {a:Act}
theorem szT_ok (hE:EnvOk P E) {t:TypeId} {n:Nat} (h:szT (E.td t) n=true):∃ i,P.info? t=some i∧i.size=n:=by
 have ht:=hE.td t
 cases htd:E.td t with
 | unk=>rw [htd] at h;cases h
 | one z =>
  rw [htd] at h ht
  obtain ⟨d,zv,hi,_⟩:=ht
  obtain ⟨i,hi,hz⟩:=info_of hi
  exact ⟨i,hi,by rw [(Prod.mk.inj hz).1];exact (of_decide_eq_true h).symm⟩
 | st m fs z =>
  rw [htd] at h ht
  obtain ⟨zs,hs,_⟩:=ht
  obtain ⟨i,flds,hi,hn,_⟩:=stShape_inv hs
  exact ⟨i,hi,by rw [hn];exact (of_decide_eq_true h).symm⟩
 | sl k =>
  rw [htd] at h ht
  obtain ⟨e',hi,_⟩:=ht
  obtain ⟨i,hi,hz⟩:=info_of hi
  exact ⟨i,hi,by rw [(Prod.mk.inj hz).1];exact (of_decide_eq_true h).symm⟩
theorem areC_one (hw:WRel X G):∀ {cs:List AV} {us:List Value},cs.length=us.length→(∀ (j:Nat) (c:AV) (u:Value),cs[j]?=some c→us[j]?=some u→RelV X c u)→areC X.hp cs=true→∀ u∈us,u.oneCell'=true
 | [],[],_,_,_,u,hu=>by cases hu
 | c :: cs,u :: us,hl,hr,hc,u',hu=>by
  obtain ⟨h1,h2⟩:=(Bool.and_eq_true _ _ ▸ hc:_∧_)
  cases hu with
  | head=>exact isC_one hw (hr 0 c u rfl rfl) h1
  | tail _ hu=>exact areC_one hw (by simpa using hl) (fun j c u hj hu=>hr (j+1) c u (by simpa using hj) (by simpa using hu)) h2 u' hu
theorem run_storeAt {t:TypeId} {i:TypeInfo} {g off:Nat} {v:Value} {w w':World} (hi:P.info? t=some i) (hs:i.size=v.cells.size) (h:(storeCells ⟨g,off,none⟩ v.cells.toList 0).run P w=.ok () w') :
  (Instr.storeAt t (.pointer (some ⟨g,off,none⟩)) v).run P w=.ok () w':=by
 simp only [Instr.storeAt,Instr.sureAddr,storeVar,Sem.run_bind,Sem.run_pure,Result.andThen_ok,run_sizeOf' hi]
 rw [if_neg (by simp [hs])]
 exact h
theorem world_shows (hw:WRel X G) {F:Nat→Prop} {w':World} (hF:Free X G F) (hk:Keep F X.w w'):Ext X { X with w:=w' }∧WRel { X with w:=w' } G∧∀ F',Free X G F'→Free { X with w:=w' } G F':=by
 refine ⟨world_ext (R':=X.R) hF hk (fun _ h=>h),world_rel hw (R':=X.R) hF hk (fun _ h=>h) (fun _ h=>.inl h) (fun b hb=>Nat.lt_of_lt_of_le (hw.rl b hb) hk.size),fun F' h=>⟨h.nr,h.nl,fun b hb=>Nat.lt_of_lt_of_le (h.lt b hb) hk.size,h.ok⟩⟩
theorem nil0_cases {off:Nat} {vs:List AV} (h:nil0 off vs=true):off=0∧∃ r,vs=.val (.pointer none) :: r:=by
 unfold nil0 at h
 split at h
 ·exact ⟨rfl,_,rfl⟩
 ·cases h
theorem setAtS_cases (cs:List AV) (off:Nat) (vs:List AV):setAtS cs off vs=setAt cs off vs∨∃ i T r,cs=.slf i T :: r∧nil0 off vs=true∧setAtS cs off vs=.slf i T :: (setAt cs off vs).tail:=by
 unfold setAtS
 split
 ·cases hn:nil0 off vs with
  | true=>exact .inr ⟨_,_,_,rfl,rfl,rfl⟩
  | false=>exact .inl rfl
 ·exact .inl rfl
theorem setAtS_len {cs:List AV} {off:Nat} {vs:List AV}:(setAtS cs off vs).length=(setAt cs off vs).length:=by
 rcases setAtS_cases cs off vs with e | ⟨i,T,r,rfl,hn,e⟩
 ·rw [e]
 ·obtain ⟨rfl,q,rfl⟩:=nil0_cases hn
  rw [e]
  simp [setAt]
theorem setAtS_get' {cs:List AV} {off:Nat} {vs:List AV} {j:Nat} {c:AV} (h:(setAtS cs off vs)[j]?=some c):(j=0∧∃ i T,c=.slf i T∧cs[0]?=some (.slf i T)∧nil0 off vs=true)∨(setAt cs off vs)[j]?=some c:=by
 rcases setAtS_cases cs off vs with e | ⟨i,T,r,rfl,hn,e⟩
 ·rw [e] at h;exact .inr h
 ·rw [e] at h
  cases j with
  | zero=>simp at h;exact .inl ⟨rfl,i,T,h.symm,rfl,hn⟩
  | succ j =>
   refine .inr ?_
   simpa using h
theorem setAtS_get {cs:List AV} {off:Nat} {vs:List AV} {j i:Nat} {T:TypeId} (h:(setAtS cs off vs)[j]?=some (.slf i T)):(cs[0]?=some (.slf i T)∧j=0)∨(setAt cs off vs)[j]?=some (.slf i T):=by
 rcases setAtS_get' h with ⟨rfl,i',T',e,h1,_⟩ | h
 ·cases e;exact .inl ⟨h1,rfl⟩
 ·exact .inr h
theorem areC_get {hp:Hp}:∀ {l:List AV} {j:Nat} {c:AV},areC hp l=true→l[j]?=some c→isC hp c=true
 | [],_,_,_,h=>by simp at h
 | d :: l,0,c,ha,h=>by
  cases h
  exact (Bool.and_eq_true _ _ ▸ (show (isC hp d&&areC hp l)=true from ha):_∧_).1
 | d :: l,j+1,c,ha,h=>areC_get ((Bool.and_eq_true _ _ ▸ (show (isC hp d&&areC hp l)=true from ha):_∧_).2) (by simpa using h)
theorem storeBox_sound (hE:EnvOk P E) (hw:WRel X G) {dst ty pos after gd t} {x y:Operand} {e:Operand→AV} (hx:RelV X (e x) (a.eval x)) (hy:RelV X (e y) (a.eval y)) {id off:Nat} (hex:e x=.ptr id off) {tb:TypeId} {cs:List AV} (hb:hgt X.hp id=.box tb cs)
  (hsz:szT (E.td t) (cellsOf (e y)).length=true) (hc1:(isAggV (e y) || isC X.hp (e y))=true) (hc2:areC X.hp (cellsOf (e y))=true) (hfit:off+(cellsOf (e y)).length≤cs.length) :
  OpH P X G ⟨dst,.store t x y,ty,pos,after,gd⟩ a .any (hput id (.box tb (setAtS cs off (cellsOf (e y)))) (hput id .dead X.hp)) X.nx:=by
 rw [hex] at hx
 obtain ⟨g,arr,t',hv,hob,hg,hs,hFb,hcs,htg⟩:=box_cells hw hx hb
 have hid:id < X.nx:=by cases hx;assumption
 obtain ⟨h1,h2⟩:=cells_rel hw hy hc1
 have hone:=areC_one hw (us:=(a.eval y).cells.toList) (by simpa using h1.symm) (fun j c u hj hu=>h2 j c u hj (by simpa using hu)) hc2
 obtain ⟨i,hi,hisz⟩:=szT_ok hE hsz
 have hlen:(a.eval y).cells.toList.length=(cellsOf (e y)).length:=by rw [Array.length_toList,h1]
 obtain ⟨w',cur',r1,r2,r3,r4,r5⟩:=st_cells (P:=P) (o:=off) (a.eval y).cells.toList 0 arr X.w hg (fun k hk h=>by have:=h.2;simp at this) (by omega) hone
 have hl:=box_live hb
 have hfree:Free (killC X id) G (fun n=>n=g):=(kill_free hw hl).sub fun n hn=>(hFb n).2 hn
 obtain ⟨e1,w1,f1⟩:=world_shows (kill_rel hw id) hfree r5
 refine opH_skip (w':=w') ?_ ?_
 ·rw [Nat.zero_add] at hv
  simp only [execOp,hv,Sem.run_bind,run_storeAt hi (by rw [hisz,h1]) r1,Result.andThen_ok,Sem.run_pure]
 ·generalize hX1:({ killC X id with w:=w' }:Ctx)=X1 at *
  have xw:X1.w=w':=by rw [← hX1]
  have xh:X1.hp=hput id .dead X.hp:=by rw [← hX1]
  have xn:X1.nx=X.nx:=by rw [← hX1]
  have xo:X1.ob id=X.ob id:=by rw [← hX1]
  have eX:Ext X X1:=Ext.trans (X:=X) (Y:=killC X id) (Z:=X1) (fun _ _ h=>h) (kill_same id).ext e1
  have hold:id < X1.nx→(.pointer (some ⟨g,0,none⟩):Value)=(X1.ob id).v∧(X.ob id).k=(X1.ob id).k:=fun _=>by rw [xo,hob];exact ⟨rfl,rfl⟩
  refine ⟨setC X1 id (.box tb (setAtS cs off (cellsOf (e y)))) ⟨.pointer (some ⟨g,0,none⟩),fun n=>n=g,(X.ob id).k⟩ X.nx,eX.trans (fun b hb _=>w1.rl b (eX.R b hb)) (set_same (by omega) hold).ext,?_,by show hput _ _ X1.hp=_;rw [xh],rfl,xw,.any _⟩
  refine setBox_rel (t':=t') (arr:=cur') w1 (by omega) hid hold (f1 _ hfree) (by rw [xw];exact r2) (by rw [r3,setAtS_len,setAt_len hfit,hs]) (fun j c u hj hu=>?_) (fun j i T hj=>?_)
  rotate_left
  ·rcases setAtS_get hj with ⟨h5,_⟩ | hj
   ·exact htg 0 i T h5
   ·rw [setAt_get hfit] at hj
    split at hj
    ·exact absurd hj fun hj=>by
      have:=areC_get hc2 hj
      cases this
    ·exact htg j i T hj
  rcases setAtS_get' hj with ⟨rfl,i,T,rfl,h5,h6⟩ | hj
  ·obtain ⟨u',h3,_,h4⟩:=hcs 0 _ h5
   cases h4 with
   | slf _ _ v hi h7 =>
    obtain ⟨b,h8,_⟩:=h7
    have hu0:u=.pointer none:=by
     obtain ⟨rfl,r,hr⟩:=nil0_cases h6
     rw [r4 0,Nat.add_zero,hlen,hr,if_pos ⟨Nat.le_refl _,by simp⟩] at hu
     have h9:=h2 0 (.val (.pointer none)) u (by rw [hr];rfl) (by simpa using hu)
     cases h9
     rfl
    rw [hu0]
    exact .slf i T _ (by rw [xn];exact hi) ⟨b,by rw [show X1.ob i=X.ob i from by rw [← hX1]];exact h8,.inl rfl⟩
  rw [setAt_get hfit] at hj
  rw [r4 j,Nat.add_zero,hlen] at hu
  split at hj
  ·rename_i hjj
   rw [if_pos hjj] at hu
   exact (h2 _ c u hj (by simpa using hu)).ext eX
  ·rename_i hjj
   rw [if_neg hjj] at hu
   obtain ⟨u',h3,_,h4⟩:=hcs j c hj
   rw [hu] at h3
   cases h3
   exact h4.ext eX
theorem bytesRow_toList (s:ByteArray) (cap:Nat):(bytesRow s cap).toList=byteCells s++List.replicate (cap - s.size) (.int .u8 0):=by simp [bytesRow,byteCells]
theorem bytes_cells {q:Bool} {l:Str}:CellsJ X G q ((l.map (elemCD X.ety .u8)).flatten) (byteCells ⟨l.toArray⟩) (fun _ _=>False):=by
 have e:(l.map (elemCD X.ety .u8)).flatten=l.map fun b=>CD.sc (.int .u8 (b.toNat:Nat)):=by
  induction l with
  | nil=>rfl
  | cons b r ih =>
   show elemCD X.ety .u8 b++(r.map (elemCD X.ety .u8)).flatten=_
   rw [ih]
   rfl
 refine ⟨by rw [e];simp [byteCells],fun j cd u hj hu=>?_,fun _ _ _ _ _ h=>h.elim,fun _ _=>.empty⟩
 rw [e,List.getElem?_map] at hj
 simp only [byteCells,List.getElem?_map] at hu
 cases hl:l[j]? with
 | none=>rw [hl] at hj;cases hj
 | some b =>
  rw [hl] at hj hu
  cases hj
  cases hu
  exact ⟨rfl,fun _=>.sc _ _ (fun _ h=>h),.sc _⟩
theorem convert_sound (hE:EnvOk P E) (hety:X.ety=E.ety) (hw:WRel X G) {dst ty pos after gd src d} {x:Operand} {e:Operand→AV} (hx:RelV X (e x) (a.eval x)) {p:Option Prop} {v:AV} {hp:Hp} {nx:Nat}
  (h:stepH E ⟨dst,.convert src d x,ty,pos,after,gd⟩ e X.hp X.nx=some (p,v,hp,nx)) (hq:∀ q,p=some q→q):OpH P X G ⟨dst,.convert src d x,ty,pos,after,gd⟩ a v hp nx:=by
 simp only [stepH] at h
 split at h
 ·rename_i z l hs hd hex
  cases h
  have hsz:=hq _ rfl
  rw [hex] at hx
  have hxv:=hx.str_inv
  obtain ⟨ds,hus,hcs⟩:=one_inv hE hs
  cases hcs
  obtain ⟨e',i,hud,hi,hsi,hb⟩:=sl_inv hE hd
  have hsl:(⟨l.toArray⟩:ByteArray).size=l.length:=str_size l
  have hr:=run_bytes_of_string (P:=P) X.w src d e' ⟨l.toArray⟩ hus hud (hb rfl)
  rw [hsl] at hr
  have hge:=grownCap_ge X.w l.length 0 e'
  have hle:=grownCap_le_maxLen X.w l.length 0 e' (by simp only [sizeOk,maxLen] at *;omega)
  have hsize:(bytesRow ⟨l.toArray⟩ (grownCap X.w l.length 0 e')).size=grownCap X.w l.length 0 e':=by
   rw [← Array.length_toList,bytesRow_toList,List.length_append,byteCells_length,List.length_replicate,hsl]
   omega
  refine opH_value (u:=.slice (some ⟨X.w.heap.size,0,none⟩) l.length (grownCap X.w l.length 0 e')) ?_ (Shows.row (newrow hw (k:=.u8) (xs:=l) (q:=true) (e:=e') (fz:=((bytesRow ⟨l.toArray⟩ (grownCap X.w l.length 0 e')).size,(bytesRow ⟨l.toArray⟩ (grownCap X.w l.length 0 e')).size+1)) bytes_cells (keep_alloc_drew X.w _) (alloc_new_drew X.w _) (by rw [hety];exact hE.tg _ _ hd _ hud) ⟨fun i hi h=>Nat.not_le_of_lt hi h.1,fun h=>absurd h (by decide)⟩ hge hle (by rw [hsize];show _=_ * 1;omega) ?_))
  ·simp only [execOp,hxv,Sem.run_bind,hr,Result.andThen_ok,Sem.run_pure]
  ·rw [bytesRow_toList]
   show List.take (l.length * 1) _=_
   rw [List.take_append_of_le_length (by rw [byteCells_length,hsl];omega),List.take_of_length_le (by rw [byteCells_length,hsl];omega)]
 ·cases h
theorem zero_cells {k:K} {zs:List Value} (h:cvs (elemCells k k.dflt |>.map fun | .dat _=>.nilS | .u8 _=>.int .u8 0 | v=>v)=some zs) :
  zs.length=k.esz∧∀ (j:Nat) (cd:CD) (u:Value),(elemCD X.ety k k.dflt)[j]?=some cd→zs[j]?=some u→CellJ X true cd u (fun _=>False):=by
 have nilO:∀ k:K,Own X.w (dataCD X.ety ⟨k,[]⟩) (.slice none 0 0) (fun _=>False):=fun k=>by
  show Own X.w (.sl (X.ety k) k.esz []) _ _
  exact .sl _ _ [] _ [] (fun _ _=>False) _ ⟨by simp,.inl ⟨rfl,rfl⟩⟩ (fun r h=>by cases h) (fun k cd u h=>by simp at h) (fun k b h=>absurd h (Nat.not_lt_zero _)) (fun k k' b h=>absurd h (Nat.not_lt_zero _)) (fun b=>by simp [Value.ownBlock])
 have hn:∀ k:K,CellJ X true (dataCD X.ety ⟨k,[]⟩) (.slice none 0 0) (fun _=>False):=fun k=>⟨rfl,fun _=>nilO k,(nilO k).rep fun _ h=>h.elim⟩
 have hsc:∀ v:Value,v.oneCell'=true→CellJ X true (.sc v) v (fun _=>False):=fun v hv=>⟨hv,fun _=>.sc _ _ (fun _ h=>h),.sc _⟩
 have hnn:CellJ X true (.sl (X.ety .node) 6 (nodesCD X.ety [])) (.slice none 0 0) (fun _=>False):=hn .node
 have nil:([]:List CD).length=0∧∀ (j:Nat) (cd:CD) (u:Value),([]:List CD)[j]?=some cd→([]:List Value)[j]?=some u→CellJ X true cd u (fun _=>False):=⟨rfl,fun j cd u h=>by simp at h⟩
 have cons:∀ {ds:List CD} {us:List Value} {n:Nat},(ds.length=n∧∀ (j:Nat) (cd:CD) (u:Value),ds[j]?=some cd→us[j]?=some u→CellJ X true cd u (fun _=>False))→∀ {d:CD} {v:Value},CellJ X true d v (fun _=>False) →
   ((d :: ds).length=n+1∧∀ (j:Nat) (cd:CD) (u:Value),(d :: ds)[j]?=some cd→(v :: us)[j]?=some u→CellJ X true cd u (fun _=>False)):=by
  intro ds us n h d v hd
  refine ⟨by simp [h.1],fun j cd u h1 h2=>?_⟩
  cases j with
  | zero=>simp at h1 h2;subst h1;subst h2;exact hd
  | succ j=>exact h.2 j cd u (by simpa using h1) (by simpa using h2)
 cases k with
 | u8=>cases h;exact ⟨rfl,(cons nil (hsc _ rfl)).2⟩
 | str=>cases h;exact ⟨rfl,(cons nil (hsc _ rfl)).2⟩
 | int=>cases h;exact ⟨rfl,(cons nil (hsc _ rfl)).2⟩
 | bool=>cases h;exact ⟨rfl,(cons nil (hsc _ rfl)).2⟩
 | attr=>cases h;exact ⟨rfl,(cons (cons nil (hsc _ rfl)) (hsc _ rfl)).2⟩
 | node=>cases h;exact ⟨rfl,fun j cd u h=>(cons (cons (cons (cons (cons (cons nil (hn .node)) (hn .attr)) (hsc _ rfl)) (hsc _ rfl)) (hsc _ rfl)) (hsc _ rfl)).2 j cd u (by rw [show elemCD X.ety .node K.node.dflt=nodeCD X.ety (Node.mk 0 0 [] [] [] []) from rfl,nodeCD_eq] at h;exact h)⟩
 | rule=>cases h;exact ⟨rfl,(cons (cons (cons nil (hn .str)) (hsc _ rfl)) (hsc _ rfl)).2⟩
 | cfg=>cases h;exact ⟨rfl,(cons (cons (cons (cons (cons (cons (cons (cons (cons nil (hsc _ rfl)) (hsc _ rfl)) (hn .str)) (hn .str)) (hn .rule)) (hn .rule)) (hn .rule)) (hsc _ rfl)) (hsc _ rfl)).2⟩
 | doc=>cases h;exact ⟨rfl,(cons (cons nil hnn) (hsc _ rfl)).2⟩
 | call=>cases h;exact ⟨rfl,(cons (cons (cons (cons (cons (cons nil (hsc _ rfl)) (hsc _ rfl)) (hn .int)) (hsc _ rfl)) (hsc _ rfl)) (hsc _ rfl)).2⟩
 | answ=>cases h;exact ⟨rfl,(cons (cons nil (hsc _ rfl)) (hsc _ rfl)).2⟩
 | tokn=>cases h;exact ⟨rfl,(cons (cons (cons (cons (cons (cons (cons nil (hsc _ rfl)) (hn .attr)) (hsc _ rfl)) (hsc _ rfl)) (hsc _ rfl)) (hsc _ rfl)) (hsc _ rfl)).2⟩
 | opn=>cases h;exact ⟨rfl,(cons (cons nil (hsc _ rfl)) (hsc _ rfl)).2⟩
 | nodes=>cases h;exact ⟨rfl,(cons nil hnn).2⟩
end
end Go.Ab
namespace Go.Ab
open Go
variable [GI]
section
variable {P:Program} {E:Env} {X Y Z:Ctx} {G:Beg} {o:Oper} {a:Act}
theorem makeSlice_sound (hE:EnvOk P E) (hety:X.ety=E.ety) (hw:WRel X G) {dst ty pos after gd t} {x y:Operand} {e:Operand→AV} (hx:RelV X (e x) (a.eval x)) (hy:RelV X (e y) (a.eval y)) {p:Option Prop} {v:AV} {hp:Hp} {nx:Nat}
  (h:stepH E ⟨dst,.makeSlice t x y,ty,pos,after,gd⟩ e X.hp X.nx=some (p,v,hp,nx)) (hq:∀ q,p=some q→q):OpH P X G ⟨dst,.makeSlice t x y,ty,pos,after,gd⟩ a v hp nx:=by
 simp only [stepH] at h
 split at h
 rotate_left
 ·cases h
 rename_i k n m htd hex hey
 cases h
 obtain ⟨h0,h1,h2⟩:=hq _ rfl
 have ht:=hE.td t
 rw [htd] at ht
 obtain ⟨e',_,hu,hsz,_,zv,bb,hzb,hb0,hb1,hcv⟩:=ht
 obtain ⟨i,hi,hsz⟩:=info_of hsz
 obtain ⟨i',hi',hzb⟩:=info_of hzb
 rw [hi] at hi'
 cases hi'
 have hz:i.zero=some zv:=by simpa using (Prod.mk.inj hzb).1
 have hby:i.bytes=bb:=by simpa using (Prod.mk.inj hzb).2
 rw [hex] at hx
 rw [hey] at hy
 obtain ⟨z1,z2⟩:=zero_cells (X:=X) hcv
 have hesz0:0 < k.esz:=by cases k<;>decide
 have hm:m.toNat≤1073741824:=h2
 have hbytes:(i.bytes:Int) * m≤281474976710656:=by
  have:bb * m.toNat≤256 * 1073741824:=Nat.mul_le_mul hb1 hm
  have h3:(bb:Int) * m=((bb * m.toNat:Nat):Int):=by rw [Int.natCast_mul];congr 1;omega
  rw [hby,h3]
  omega
 have hr:=run_make (P:=P) X.w t e' i zv hu hi hz .i64 .i64 n m h0 h1 hbytes (by omega)
 rw [hsz] at hr
 have hzs:zv.cells.size=k.esz:=by rw [← z1,Array.length_toList]
 let us:List Value:=(List.replicate n.toNat zv.cells.toList).flatten
 have hus:us.length=n.toNat * k.esz:=by
  show (List.replicate n.toNat zv.cells.toList).flatten.length=_
  rw [flatten_len (n:=k.esz) (fun row hr=>by rw [List.eq_of_mem_replicate hr];exact z1),List.length_replicate]
 have hget:∀ (α:Type) (l:List α) (c j:Nat),l.length=k.esz→j < c * k.esz→(List.replicate c l).flatten[j]?=l[j % k.esz]?:=by
  intro α l c j hl hj
  have hd:j / k.esz < c:=Nat.div_lt_of_lt_mul (by rw [Nat.mul_comm];exact hj)
  have hmod:j % k.esz < k.esz:=Nat.mod_lt _ hesz0
  have:=flatten_get (l:=List.replicate c l) (n:=k.esz) (fun row hr=>by rw [List.eq_of_mem_replicate hr];exact hl) (i:=j / k.esz) (j:=j % k.esz) (row:=l) (x:=l[j % k.esz]'(by omega)) (by rw [List.getElem?_replicate,if_pos hd]) (List.getElem?_eq_getElem _)
  rw [show j / k.esz * k.esz+j % k.esz=j by rw [Nat.mul_comm];exact Nat.div_add_mod j k.esz] at this
  rw [this,List.getElem?_eq_getElem]
 have hcells:CellsJ X G true ((List.replicate n.toNat k.dflt).map (elemCD X.ety k)).flatten us (fun _ _=>False):=by
  rw [List.map_replicate]
  have hl:=elemCD_len X.ety k k.dflt
  have hlen:(List.replicate n.toNat (elemCD X.ety k k.dflt)).flatten.length=n.toNat * k.esz:=by
   rw [flatten_len (n:=k.esz) (fun row hr=>by rw [List.eq_of_mem_replicate hr];exact hl),List.length_replicate]
  refine ⟨by rw [hlen,hus],fun j cd u hj hu=>?_,fun _ _ _ _ _ h=>h.elim,fun _ _=>.empty⟩
  have hlt:j < n.toNat * k.esz:=by rw [← hlen];exact (List.getElem?_eq_some_iff.1 hj).1
  rw [hget _ _ _ _ hl hlt] at hj
  rw [hget _ _ _ _ z1 hlt] at hu
  exact z2 _ cd u hj hu
 have hmk:(madeCells zv.cells (m.toNat * k.esz)).size=m.toNat * k.esz:=size_madeCells _ _
 refine opH_value (u:=.slice (some ⟨X.w.heap.size,0,none⟩) n.toNat m.toNat) (w':=X.w.alloc (.cells (madeCells zv.cells (m.toNat * k.esz)) e')) ?_ (Shows.row ?_)
 ·simp only [execOp,hx.int_inv,hy.int_inv,Sem.run_bind,hr,Result.andThen_ok,Sem.run_pure]
 ·have:=newrow hw (k:=k) (xs:=List.replicate n.toNat k.dflt) hcells (keep_alloc X.w _) (alloc_new X.w (.cells (madeCells zv.cells (m.toNat * k.esz)) e')) (by rw [hety];exact hE.tg _ _ htd _ hu) (cap:=m.toNat) (.zero _ _) (by rw [List.length_replicate];omega) (by simp only [maxLen];omega) hmk (by
   rw [List.length_replicate]
   apply List.ext_getElem?
   intro j
   rw [List.getElem?_take]
   by_cases hj:j < n.toNat * k.esz
   ·rw [if_pos hj,hget _ _ _ _ z1 hj]
    have hjm:j < m.toNat * k.esz:=Nat.lt_of_lt_of_le hj (Nat.mul_le_mul_right _ (by omega))
    have hmod:j % k.esz < zv.cells.size:=by rw [hzs];exact Nat.mod_lt _ hesz0
    simp [madeCells,hjm,hzs]
    rw [getElem!_pos zv.cells (j % k.esz) hmod,Array.getElem?_eq_getElem hmod]
   ·rw [if_neg hj,List.getElem?_eq_none (by rw [hus];omega)])
  rw [List.length_replicate] at this
  exact this
theorem cut_flat {X:Ctx} {k:K} (L:List k.den) (c:Nat):((L.take c).map (elemCD X.ety k)).flatten=((L.map (elemCD X.ety k)).flatten).take (c * k.esz):=by
 induction L generalizing c with
 | nil=>simp
 | cons r L ih =>
  cases c with
  | zero=>simp
  | succ c =>
   have h1:=elemCD_len X.ety k r
   simp only [List.take_succ_cons,List.map_cons,List.flatten_cons]
   have h2:(c+1) * k.esz=k.esz+c * k.esz:=by rw [Nat.add_mul,Nat.one_mul,Nat.add_comm]
   rw [ih c,List.take_append,h1,h2,List.take_of_length_le (l:=elemCD X.ety k r) (by omega),Nat.add_sub_cancel_left]
theorem cut_core (hE:EnvOk P E) {dst ty pos after gd t} {x y:Operand} {id:Nat} {n:Int} {q:Bool} {k:K} {xs:List k.den} {us:List Value} {fs:Nat→Nat→Prop} (htd:E.td t=.sl k) (hy:a.eval y=.int .i64 n) (h0:0≤n) (h1:n≤(xs.length:Nat))
  (w1:WRel (killC X id) G) (ho:ownR X.w (X.ety k) k.esz (a.eval x) xs.length us) (hc':CellsJ (killC X id) G q ((xs.take n.toNat).map (elemCD X.ety k)).flatten (us.take (n.toNat * k.esz)) fs)
  (hne:∀ j b,j < us.length→fs j b→(a.eval x).ownBlock≠some b) (hfr:Free (killC X id) G (fun b=>(a.eval x).ownBlock=some b)) :
  OpH P X G ⟨dst,.slice t x none (some y) none,ty,pos,after,gd⟩ a (.row X.nx) (hput X.nx (.row q ⟨k,xs.take n.toNat⟩) (hput id .dead X.hp)) (X.nx+1):=by
 obtain ⟨e',i,hu,hi,hsz,_⟩:=sl_inv hE htd
 obtain ⟨A,cap,hv,hcap,hA⟩:=own_shape ho
 have hr:=run_slice_sl (P:=P) (X:=X) (w:=X.w) (A:=A) (len:=xs.length) (cap:=cap) hu hi (lo:=none) (hiV:=some (.int .i64 n)) (vlo:=none) (vhi:=some (.int .i64 n)) (x:=0) (y:=n) rfl (fun c hc=>by cases hc) (fun _=>rfl) (fun c hc=>by cases hc;exact ⟨_,rfl,.int _ _⟩) (fun h=>by cases h) (Int.le_refl _) h0 h1 hcap
 simp only [Int.toNat_zero,Nat.sub_zero,Nat.zero_mul] at hr
 have hA':(if cap=0 then A else A.map (·.add 0))=A:=by
  split
  ·rfl
  ·cases A with
   | none=>rfl
   | some ad =>
    have:ad.spot=none:=by
     rcases ho.2 with ⟨hn,_⟩ | ⟨g,c2,cur,fz,hn,_⟩
     ·rw [hv] at hn;injection hn with e1;cases e1
     ·rw [hv] at hn;injection hn with e1;cases e1;rfl
    obtain ⟨b,of,sp⟩:=ad
    cases this
    simp [Addr.add]
 rw [hA'] at hr
 have hm:n.toNat≤xs.length:=by omega
 have husl:us.length=xs.length * k.esz:=ho.1
 have hle:n.toNat * k.esz≤us.length:=by rw [husl];exact Nat.mul_le_mul_right _ hm
 have ho':ownR X.w (X.ety k) k.esz (.slice A n.toNat cap) (xs.take n.toNat).length (us.take (n.toNat * k.esz)):=by
  rw [List.length_take,Nat.min_eq_left hm]
  refine ⟨by rw [List.length_take];omega,?_⟩
  rcases ho.2 with ⟨hn,hz⟩ | ⟨g,c2,cur,fz,hn,hg,hfz,h3,h4,h5,h6⟩
  ·rw [hv] at hn
   injection hn with e1 e2 e3
   have:n.toNat=0:=by omega
   rw [this,e1,e3]
   exact .inl ⟨rfl,rfl⟩
  ·rw [hv] at hn
   injection hn with e1 e2 e3
   subst e1
   subst e3
   refine .inr ⟨g,cap,cur,fz,rfl,hg,hfz,by omega,h4,h5,?_⟩
   rw [← h6,List.take_take,Nat.min_eq_left (Nat.mul_le_mul_right _ hm)]
 refine opH_value (u:=.slice A n.toNat cap) (w':=X.w) ?_ (Shows.after (kill_same id) w1 (Shows.row ?_))
 ·simp only [execOp,hv,hy,Option.map_none,Option.map_some,Sem.run_bind,hr,Result.andThen_ok,Sem.run_pure]
 ·have hbk:∀ b,(Value.slice A n.toNat cap).ownBlock=some b→(a.eval x).ownBlock=some b:=by
   intro b hb'
   rw [hv]
   cases A<;>(simp [Value.ownBlock] at hb' ⊢;try exact hb')
  refine makerow (k:=k) (xs:=xs.take n.toNat) (X:=killC X id) w1 hc' (B:=fun b=>(a.eval x).ownBlock=some b) hfr (Keep.refl _ _) (fun j b hj hb hh=>hne j b (by rw [List.length_take] at hj;omega) hb hh) ho' (fun b hb=>.inl (hbk b hb)) (Nat.le_succ _) (Nat.lt_succ_self _) (fun h=>absurd h (Nat.lt_irrefl _))
theorem cutRow_sound (hE:EnvOk P E) (hw:WRel X G) {dst ty pos after gd t} {x y:Operand} {e:Operand→AV} (hx:RelV X (e x) (a.eval x)) (hy:RelV X (e y) (a.eval y)) {p:Option Prop} {v:AV} {hp:Hp} {nx:Nat}
  (h:stepH E ⟨dst,.slice t x none (some y) none,ty,pos,after,gd⟩ e X.hp X.nx=some (p,v,hp,nx)) (hq:∀ q,p=some q→q):OpH P X G ⟨dst,.slice t x none (some y) none,ty,pos,after,gd⟩ a v hp nx:=by
 simp only [stepH] at h
 split at h
 rotate_left
 ·cases h
 rename_i k id n htd hex hey
 split at h
 ·rename_i q d hb
  split at h
  rotate_left
  ·cases h
  rename_i hkd
  subst hkd
  cases h
  obtain ⟨h0,h1⟩:=hq _ rfl
  rw [hex] at hx
  rw [hey] at hy
  obtain ⟨us,fs,w1,ho,hc,hne,hfr,_,_⟩:=openrow hw hx hb
  refine cut_core hE htd hy.int_inv h0 h1 w1 ho ?_ hne hfr
  rw [cut_flat]
  have husl:us.length=d.l.length * d.k.esz:=ho.1
  have hle:n.toNat * d.k.esz≤us.length:=by rw [husl];exact Nat.mul_le_mul_right _ (by omega)
  have hlt:(us.take (n.toNat * d.k.esz)).length=n.toNat * d.k.esz:=by rw [List.length_take];omega
  refine ⟨by rw [List.length_take,List.length_take,hc.len],fun j cd u hj hu=>?_,fun j k b hj hk=>hc.dis j k b (by omega) (by omega),fun j hj=>hc.free j (by omega)⟩
  rw [List.getElem?_take] at hj hu
  split at hj
  ·rename_i hjj
   rw [if_pos hjj] at hu
   exact hc.rel j cd u hj hu
  ·cases hj
 ·rename_i d i cs hb
  split at h
  rotate_left
  ·cases h
  rename_i hkd
  subst hkd
  cases h
  obtain ⟨h0,h1,h2⟩:=hq _ rfl
  rw [hex] at hx
  rw [hey] at hy
  have hl:live X id:=by unfold live;rw [hb];simp
  have hfree:=kill_free hw hl
  obtain ⟨hv,_,i0,ilt,icl,us,fs,g1,g2,g3,g4,g5,g6,g7⟩:=hol_val hw hx hb
  have husl:us.length=d.l.length * d.k.esz:=g1.1
  have hle:n.toNat * d.k.esz≤us.length:=by rw [husl];exact Nat.mul_le_mul_right _ (by omega)
  have hlt:(us.take (n.toNat * d.k.esz)).length=n.toNat * d.k.esz:=by rw [List.length_take];omega
  have hfl:(d.l.map (elemCD X.ety d.k)).flatten.length=us.length:=by
   rw [flatten_len (n:=d.k.esz) (fun row hr=>by obtain ⟨x,_,rfl⟩:=List.mem_map.1 hr;exact elemCD_len X.ety d.k x),List.length_map,husl]
  refine cut_core hE htd hy.int_inv h0 h1 (kill_rel hw id) g1 ?_ g6 (hfree.sub fun b hb=>(g7 b).2 (.inl hb))
  rw [cut_flat]
  refine ⟨by rw [List.length_take,List.length_take,hfl],fun j cd u hj hu=>?_,fun j k b hj hk=>g5 j k b (by omega) (by omega),fun j hj=>hfree.sub fun b hb=>(g7 b).2 (.inr ⟨j,by omega,hb⟩)⟩
  rw [List.getElem?_take] at hj hu
  split at hj
  ·rename_i hjj
   rw [if_pos hjj] at hu
   have hesz0:0 < d.k.esz:=by cases d.k<;>decide
   have hdn:j / d.k.esz < n.toNat:=Nat.div_lt_of_lt_mul (by rw [Nat.mul_comm];exact hjj)
   have ho:=g2 j cd u (by omega) hj hu
   have hr:Rep X.w (fun b=>X.R b∨fs j b) cd u:=ho.rep fun _ h=>.inr h
   obtain ⟨x,hx'⟩:=flat_mem hj
   exact ⟨plain_cell hx' hr,fun _=>ho,hr⟩
  ·cases hj
 ·cases h
end
end Go.Ab
namespace Go.Ab
open Go
variable [GI]
section
variable {P:Program} {E:Env} {X Y Z:Ctx} {G:Beg} {o:Oper} {a:Act}
def setL {α:Type} (cs:List α) (off:Nat) (vs:List α):List α:=cs.take off++vs++cs.drop (off+vs.length)
theorem setL_get {α:Type} {cs vs:List α} {off k:Nat} (h:off+vs.length≤cs.length):(setL cs off vs)[k]?=if off≤k∧k < off+vs.length then vs[k - off]? else cs[k]?:=by
 unfold setL
 have h1:(cs.take off).length=off:=by rw [List.length_take];omega
 by_cases hk:k < off
 ·rw [if_neg (by omega),List.append_assoc,List.getElem?_append_left (by omega),List.getElem?_take,if_pos hk]
 ·rw [List.append_assoc,List.getElem?_append_right (by omega),h1]
  by_cases hk2:k < off+vs.length
  ·rw [if_pos ⟨by omega,hk2⟩,List.getElem?_append_left (by omega)]
  ·rw [if_neg (by omega),List.getElem?_append_right (by omega),List.getElem?_drop]
   congr 1
   omega
theorem setL_len {α:Type} {cs vs:List α} {off:Nat} (h:off+vs.length≤cs.length):(setL cs off vs).length=cs.length:=by
 simp only [setL,List.length_append,List.length_take,List.length_drop]
 omega
theorem flat_at {k:K} {xs:List k.den} {j:Nat} (hj:j < xs.length * k.esz):∃ x,xs[j / k.esz]?=some x∧(xs.map (elemCD X.ety k)).flatten[j]?=(elemCD X.ety k x)[j % k.esz]?∧j % k.esz < k.esz:=by
 have hesz0:0 < k.esz:=by cases k<;>decide
 have hd:j / k.esz < xs.length:=Nat.div_lt_of_lt_mul (by rw [Nat.mul_comm];exact hj)
 have hmod:j % k.esz < k.esz:=Nat.mod_lt _ hesz0
 refine ⟨xs[j / k.esz],List.getElem?_eq_getElem hd,?_,hmod⟩
 have hl:=elemCD_len X.ety k xs[j / k.esz]
 have:=flatten_get (l:=xs.map (elemCD X.ety k)) (n:=k.esz) (fun row hr=>by obtain ⟨x,_,rfl⟩:=List.mem_map.1 hr;exact elemCD_len X.ety k x) (i:=j / k.esz) (j:=j % k.esz) (row:=elemCD X.ety k xs[j / k.esz])
  (x:=(elemCD X.ety k xs[j / k.esz])[j % k.esz]'(by omega)) (by rw [List.getElem?_map,List.getElem?_eq_getElem hd];rfl) (List.getElem?_eq_getElem _)
 rw [show j / k.esz * k.esz+j % k.esz=j by rw [Nat.mul_comm];exact Nat.div_add_mod j k.esz] at this
 rw [this,List.getElem?_eq_getElem]
theorem keep_cell {q:Bool} {c:AV} {u:Value} {F:Nat→Prop} (hp:plainC c=true) (h:CellJ X q (cellCD X.ety c) u F) (hF:q=false→∀ b,¬ F b):RelA X (ownCell q c) u F:=by
 obtain ⟨_,h1,h2⟩:=h
 have hsc:∀ {v:Value},cellCD X.ety c=.sc v→∀ b,¬ F b:=fun he=>by
  cases q with
  | true =>
   have:=h1 rfl
   rw [he] at this
   cases this with
   | sc _ _ h=>exact h
  | false=>exact hF rfl
 cases c with
 | u8 b=>have:=hsc rfl;cases h2;exact .pl _ _ _ (.u8 b) this
 | int k n=>have:=hsc rfl;cases h2;exact .pl _ _ _ (.int k n) this
 | bool b=>have:=hsc rfl;cases h2;exact .pl _ _ _ (.bool b) this
 | str l=>have:=hsc rfl;cases h2;exact .pl _ _ _ (.str l) this
 | dat d =>
  cases q with
  | true=>exact .own true d u F (h1 rfl)
  | false=>exact .pl _ _ _ (.dat d u (h2.mono fun b hb=>hb.resolve_right (hF rfl b))) (hF rfl)
 | _=>cases hp
theorem take_cells (hw:WRel X G) {v:AV} {u:Value} (hv:RelV X v u) (hone:(∀ cs,v≠.agg cs)→(∀ us,TakenL X G (takeL [v] X.hp) us→∀ c∈us,c.oneCell'=true)) :
  TakenL X G (takeL (cellsOf v) X.hp) u.cells.toList:=by
 by_cases hc:∃ cs,v=.agg cs
 ·obtain ⟨cs,rfl⟩:=hc
  cases hv with
  | agg cs vs hl hr=>exact takeL_rel hw (by simpa [cellsOf,Value.cells] using hl) (fun j c u hj hu=>hr j c u hj (by simpa [Value.cells] using hu))
 ·have e:cellsOf v=[v]:=by cases v<;>first | rfl | exact absurd ⟨_,rfl⟩ hc
  have h:=takeL_rel hw (cs:=[v]) (us:=[u]) rfl (fun j c u' hj hu=>by
   cases j with
   | zero=>simp at hj hu;subst hj;subst hu;exact hv
   | succ j=>simp at hj)
  have h1:u.cells.toList=[u]:=by rw [one_cells (hone (fun cs he=>hc ⟨cs,he⟩) [u] h u (by simp))]
  rw [h1,e]
  exact h
theorem storeRow_sound (hE:EnvOk P E) (hw:WRel X G) {dst ty pos after gd t} {x y:Operand} {e:Operand→AV} (hx:RelV X (e x) (a.eval x)) (hy:RelV X (e y) (a.eval y)) {id off:Nat} {i:Int} (hex:e x=.elp id i off) {q:Bool} {d:Data} (hb:hgt X.hp id=.row q d)
  (hsz:szT (E.td t) (cellsOf (e y)).length=true) {vs:List AV} {hp1:Hp} (hT:takeL (cellsOf (e y)) (hput id .dead X.hp)=(vs,hp1)) {z:d.k.den} {o':Bool} (hm:elemMk d.k (setAt ((elemCells d.k (d.get i)).map (ownCell q)) off vs)=some (z,o')) (hfit:off+vs.length≤d.k.esz) :
  OpH P X G ⟨dst,.store t x y,ty,pos,after,gd⟩ a .any (hput id (.row (q&&o') ⟨d.k,d.l.set i.toNat z⟩) hp1) X.nx:=by
 rw [hex] at hx
 obtain ⟨g,b0,hav,hb0,hob,hi0,hi1,_⟩:=elp_cells hw hx hb
 have hid:id < X.nx:=by cases hx;assumption
 obtain ⟨_,hkk,_⟩:=row_val hw (RelV.row id (X.ob id).v hid rfl) hb
 obtain ⟨us,fs,w1,ho,hc,hne,hfr,_,hqf⟩:=openrow hw (RelV.row id (X.ob id).v hid rfl) hb
 have hdead:hgt (killC X id).hp id=.dead:=by rw [show (killC X id).hp=hput id .dead X.hp from rfl,hgt_hput,if_pos rfl]
 have husl:us.length=d.l.length * d.k.esz:=ho.1
 have hcl:((elemCells d.k (d.get i)).map (ownCell q)).length=d.k.esz:=by rw [List.length_map,elemCells_len]
 -- what is stored
 have hT':takeL (cellsOf (e y)) (killC X id).hp=(vs,hp1):=hT
 have htk:TakenL (killC X id) G (takeL (cellsOf (e y)) (killC X id).hp) (a.eval y).cells.toList:=by
  refine take_cells w1 (hy.ext (kill_same id).ext) fun hna us2 ht c hc'=>?_
  have e1:cellsOf (e y)=[e y]:=by cases hey:e y<;>first | rfl | exact absurd hey (hna _)
  rw [e1] at hT'
  rw [hT'] at ht
  obtain ⟨fs2,k1,k2,k3,k4,k5⟩:=ht
  obtain ⟨m1,m2⟩:=elemMk_cells (X:={ killC X id with hp:=hp1 }) hm
  obtain ⟨j,hj,rfl⟩:=List.getElem_of_mem hc'
  have hjv:j < vs.length:=by rw [k4.len];exact hj
  have hlt:off+j < (elemCD X.ety d.k z).length:=by rw [elemCD_len];omega
  exact (m2 (off+j) vs[j] _ us2[j] (fs2 j) (List.getElem?_eq_getElem hlt) (by rw [setAt_get (by omega),if_pos (by omega)];simp) (k4.rel j _ _ (List.getElem?_eq_getElem hjv) (List.getElem?_eq_getElem hj))).1
 rw [hT'] at htk
 obtain ⟨fs2,k1,k2,k3,k4,k5⟩:=htk
 simp only at k1 k2 k3 k4 k5
 generalize hU2:(a.eval y).cells.toList=us2 at *
 have hvl:vs.length=us2.length:=k4.len
 obtain ⟨m1,m2⟩:=elemMk_cells (X:={ killC X id with hp:=hp1 }) hm
 generalize hX2:({ killC X id with hp:=hp1 }:Ctx)=X2 at *
 have xw:X2.w=X.w:=by rw [← hX2]
 have xR:X2.R=X.R:=by rw [← hX2]
 have xh:X2.hp=hp1:=by rw [← hX2]
 have xn:X2.nx=X.nx:=by rw [← hX2]
 have xe:X2.ety=X.ety:=by rw [← hX2]
 have xo:X2.ob=X.ob:=by rw [← hX2]
 rw [xe] at m1 m2
 have hc2:CellsJ X2 G q (d.l.map (elemCD X.ety d.k)).flatten us fs:=hc.step k2 k3 fun _ _ _ _ h=>h
 have hfr2:Free X2 G (fun b=>(X.ob id).v.ownBlock=some b):=hfr.foot k3 k2.w k2.R fun _ _ h=>h
 have hdj:∀ j k b,j < us.length→k < us2.length→fs j b→fs2 k b→False:=fun j k b hj hk e1 e2=>by
  obtain ⟨id',l1,l2⟩:=k5 k b (by omega) e2
  exact (hc.free j hj).nl id' b l1 l2 e1
 -- the new cells
 let base:=i.toNat * d.k.esz+off
 have hilt:i.toNat < d.l.length:=by omega
 have hesz0:0 < d.k.esz:=by cases d.k<;>decide
 have hrow:(i.toNat+1) * d.k.esz≤d.l.length * d.k.esz:=Nat.mul_le_mul_right _ hilt
 have hrow':(i.toNat+1) * d.k.esz=i.toNat * d.k.esz+d.k.esz:=by rw [Nat.add_mul,Nat.one_mul]
 have hbl:base+us2.length≤us.length:=by show i.toNat * d.k.esz+off+us2.length≤_;omega
 let us':=setL us base us2
 have hus':us'.length=us.length:=setL_len hbl
 let hs:Nat→Nat→Prop:=fun k b=>(base≤k∧k < base+us2.length∧fs2 (k - base) b)∨(¬ (base≤k∧k < base+us2.length)∧fs k b)
 have hcells:CellsJ X2 G (q&&o') ((d.l.set i.toNat z).map (elemCD X2.ety d.k)).flatten us' hs:=by
  rw [xe]
  have hfl:((d.l.set i.toNat z).map (elemCD X.ety d.k)).flatten.length=d.l.length * d.k.esz:=by
   rw [flatten_len (n:=d.k.esz) (fun row hr=>by obtain ⟨x,_,rfl⟩:=List.mem_map.1 hr;exact elemCD_len X.ety d.k x),List.length_map,List.length_set]
  refine ⟨by rw [hfl,hus',husl],fun j cd u hj hu=>?_,fun j k b hj hk e1 e2=>?_,fun j hj=>?_⟩
  ·have hjl:j < d.l.length * d.k.esz:=by rw [← hfl];exact (List.getElem?_eq_some_iff.1 hj).1
   obtain ⟨x0,hx0,hx1,hmod⟩:=flat_at (X:=X) (xs:=d.l.set i.toNat z) (by rw [List.length_set];exact hjl)
   rw [hx1] at hj
   rw [setL_get hbl] at hu
   have hdm:=Nat.div_add_mod j d.k.esz
   by_cases hr:j / d.k.esz=i.toNat
   ·-- the element that is turned
    rw [hr,List.getElem?_set_self hilt] at hx0
    cases hx0
    have hje:j=i.toNat * d.k.esz+j % d.k.esz:=by rw [← hr,Nat.mul_comm];omega
    by_cases hin:base≤j∧j < base+us2.length
    ·rw [if_pos hin] at hu
     have hbase:base=i.toNat * d.k.esz+off:=rfl
     have hidx:j % d.k.esz - off=j - base:=by omega
     have hlv:j - base < vs.length:=by omega
     have:=m2 (j % d.k.esz) (vs[j - base]'hlv) cd u (fs2 (j - base)) hj (by rw [setAt_get (by omega),if_pos (by omega),hidx];exact List.getElem?_eq_getElem hlv) (k4.rel (j - base) _ u (List.getElem?_eq_getElem hlv) hu)
     have:=this.weak (q':=q&&o') (by simp +contextual)
     have hh:hs j=fs2 (j - base):=funext fun b=>propext ⟨fun h=>h.elim (fun h=>h.2.2) (fun h=>absurd hin h.1),fun h=>.inl ⟨hin.1,hin.2,h⟩⟩
     rw [hh]
     exact this
    ·rw [if_neg hin] at hu
     have hbase:base=i.toNat * d.k.esz+off:=rfl
     obtain ⟨x1,hx1',hx2,_⟩:=flat_at (X:=X) (xs:=d.l) hjl
     rw [hr,List.getElem?_eq_getElem hilt] at hx1'
     cases hx1'
     have hget:d.get i=d.l[i.toNat]:=by simp [Data.get,List.getD,hilt]
     rw [← hget] at hx2
     have hlc:j % d.k.esz < (elemCells d.k (d.get i)).length:=by rw [elemCells_len];exact hmod
     have hcd0:(elemCD X.ety d.k (d.get i))[j % d.k.esz]?=some (cellCD X.ety (elemCells d.k (d.get i))[j % d.k.esz]):=by rw [elemCD_cells,List.getElem?_map,List.getElem?_eq_getElem hlc];rfl
     rw [hcd0] at hx2
     have hcj:=hc2.rel j _ u hx2 hu
     rw [← xe] at hcj
     have hjus:j < us.length:=(List.getElem?_eq_some_iff.1 hu).1
     have hra:=keep_cell (X:=X2) (elemCells_plain d.k (d.get i) _ (List.getElem_mem hlc)) hcj (fun hq b=>hqf hq j b hjus)
     have:=(m2 (j % d.k.esz) (ownCell q (elemCells d.k (d.get i))[j % d.k.esz]) cd u (fs j) hj (by rw [setAt_get (by omega),if_neg (by omega),List.getElem?_map,List.getElem?_eq_getElem hlc];rfl) hra).weak (q':=q&&o') (by simp +contextual)
     have hh:hs j=fs j:=funext fun b=>propext ⟨fun h=>h.elim (fun h=>absurd ⟨h.1,h.2.1⟩ hin) (fun h=>h.2),fun h=>.inr ⟨hin,h⟩⟩
     rw [hh]
     exact this
   ·rw [List.getElem?_set_ne (fun h=>hr h.symm)] at hx0
    have hnin:¬ (base≤j∧j < base+us2.length):=by
     intro hin
     have hbase:base=i.toNat * d.k.esz+off:=rfl
     apply hr
     apply Nat.div_eq_of_lt_le
     ·omega
     ·show j < (i.toNat+1) * d.k.esz
      omega
    rw [if_neg hnin] at hu
    obtain ⟨x1,hx1',hx2,_⟩:=flat_at (X:=X) (xs:=d.l) hjl
    rw [hx0] at hx1'
    cases hx1'
    rw [← hx2] at hj
    have:=(hc2.rel j cd u hj hu).weak (q':=q&&o') (by simp +contextual)
    have hh:hs j=fs j:=funext fun b=>propext ⟨fun h=>h.elim (fun h=>absurd ⟨h.1,h.2.1⟩ hnin) (fun h=>h.2),fun h=>.inr ⟨hnin,h⟩⟩
    rw [hh]
    exact this
  ·rw [hus'] at hj hk
   rcases e1 with ⟨a1,a2,a3⟩ | ⟨a1,a2⟩<;>rcases e2 with ⟨b1,b2,b3⟩ | ⟨b1,b2⟩
   ·have:=k4.dis _ _ b (by omega) (by omega) a3 b3
    omega
   ·exact (hdj k (j - base) b hk (by omega) b2 a3).elim
   ·exact (hdj j (k - base) b hj (by omega) a2 b3).elim
   ·exact hc.dis j k b hj hk a2 b2
  ·rw [hus'] at hj
   by_cases hin:base≤j∧j < base+us2.length
   ·exact (k4.free (j - base) (by omega)).sub fun b hb=>hb.elim (fun h=>h.2.2) (fun h=>absurd hin h.1)
   ·exact (hc2.free j hj).sub fun b hb=>hb.elim (fun h=>absurd ⟨h.1,h.2.1⟩ hin) (fun h=>h.2)
 -- the store
 obtain ⟨ii,hii,hisz⟩:=szT_ok hE hsz
 have hyl:(a.eval y).cells.size=us2.length:=by rw [← hU2,Array.length_toList]
 have hcl2:(cellsOf (e y)).length=us2.length:=by
  have:∀ (cs:List AV) (hp:Hp),(takeL cs hp).1.length=cs.length:=by
   intro cs
   induction cs with
   | nil=>intro hp;rfl
   | cons c cs ih=>intro hp;simp [takeL,ih]
  rw [← hvl,← this (cellsOf (e y)) (hput id .dead X.hp),hT]
 have hone:∀ u∈us2,u.oneCell'=true:=by
  intro u hu
  obtain ⟨j,hj,rfl⟩:=List.getElem_of_mem hu
  have hjb:base+j < us'.length:=by rw [hus'];omega
  refine (hcells.rel (base+j) _ us2[j] (List.getElem?_eq_getElem (by rw [hcells.len];exact hjb)) ?_).1
  show (setL us base us2)[base+j]?=_
  rw [setL_get hbl,if_pos ⟨Nat.le_add_right _ _,by omega⟩,Nat.add_sub_cancel_left]
  exact List.getElem?_eq_getElem hj
 rcases ho.2 with ⟨hn,h0⟩ | ⟨g',cap,cur,fz,hn,⟨eb,hg,htg⟩,hfz,hcap,hmax,hcsz,htk⟩
 ·omega
 have hgg:g'=g:=by rw [hn] at hob;simpa [Value.ownBlock] using hob
 subst hgg
 have hcapl:d.l.length * d.k.esz≤cur.size:=by rw [hcsz];exact Nat.mul_le_mul_right _ hcap
 obtain ⟨w',cur',r1,r2,r3,r4,r5⟩:=st_cells (P:=P) (o:=base) us2 0 cur X.w hg hfz.1 (by omega) hone
 refine opH_skip (w':=w') ?_ ?_
 ·have hav':a.eval x=.pointer (some ⟨g',base,none⟩):=by rw [hav,hb0]
  simp only [execOp,hav',Sem.run_bind,run_storeAt hii (by rw [hisz,hcl2,hyl]) (by rw [hU2];exact r1),Result.andThen_ok,Sem.run_pure]
 ·have ho':ownR w' (X2.ety d.k) d.k.esz (X.ob id).v (d.l.set i.toNat z).length us':=by
   rw [List.length_set]
   refine ⟨by rw [hus',husl],.inr ⟨g',cap,cur',fz,hn,⟨eb,r2,by first | exact htg | (rw [show X2.ety=X.ety from by first | rfl | assumption | (rw [← hX2])];exact htg)⟩,by rw [r3];exact hfz,hcap,hmax,by rw [r3];exact hcsz,?_⟩⟩
   apply List.ext_getElem?
   intro j
   show _=(setL us base us2)[j]?
   rw [setL_get hbl,List.getElem?_take,Array.getElem?_toList,r4 j,Nat.add_zero,← htk,List.getElem?_take,Array.getElem?_toList]
   by_cases hj:j < d.l.length * d.k.esz
   ·rw [if_pos hj,if_pos hj,Array.getElem?_toList]
   ·rw [if_neg hj,if_neg (by omega),if_neg hj]
  have hkeep:Keep (fun b=>(X.ob id).v.ownBlock=some b) X2.w w':=by
   rw [xw]
   exact r5.mono fun b hb=>by rw [hb];exact hob
  have mk:=makerow (k:=d.k) (xs:=d.l.set i.toNat z) k1 hcells hfr2 hkeep (fun j b hj hb hh=>by
   rw [hus'] at hj
   rcases hb with ⟨c1,c2,c3⟩ | ⟨c1,c2⟩
   ·obtain ⟨id',l1,l2⟩:=k5 (j - base) b (by omega) c3
    exact hfr.nl id' b l1 l2 hh
   ·exact hne j b hj c2 hh) ho' (fun b hb=>.inl hb) (id:=id) (nx:=X.nx) (by omega) hid (fun _=>by rw [xo];exact ⟨rfl,hkk⟩)
  obtain ⟨X3,n1,n2,n3,n4,n5,_⟩:=mk
  exact ⟨X3,Ext.trans (X:=X) (Y:=X2) (Z:=X3) (fun b hb _=>k1.rl b (by rw [xR];exact hb)) (Ext.trans (X:=X) (Y:=killC X id) (Z:=X2) (fun _ _ h=>h) (kill_same id).ext k2.ext) n1,n2,by rw [n3,xh],n4,n5,.any _⟩
theorem div_elem {i j n:Nat} (hj:j < n):(i * n+j) / n=i:=by
 have hn:0 < n:=Nat.lt_of_le_of_lt (Nat.zero_le _) hj
 rw [Nat.mul_comm,Nat.mul_add_div hn,Nat.div_eq_of_lt hj,Nat.add_zero]
theorem setHol_rel (hw:WRel X G) {id:Nat} {d:Data} {i:Int} {cs:List AV} {v:Value} {F:Nat→Prop} {nx:Nat} (hn:X.nx≤nx) (hid:id < nx) (hold:id < X.nx→v=(X.ob id).v∧d.k=(X.ob id).k) (hF:Free X G F)
  (ho:HolO (setC X id (.hol d i cs) ⟨v,F,d.k⟩ nx) d i cs v F):WRel (setC X id (.hol d i cs) ⟨v,F,d.k⟩ nx) G:=by
 refine set_rel hw hn hid hold hF ?_
 unfold ObjOk
 rw [show (setC X id (.hol d i cs) ⟨v,F,d.k⟩ nx).hp=hput id (.hol d i cs) X.hp from rfl,hgt_hput,if_pos rfl]
 have e:(setC X id (.hol d i cs) ⟨v,F,d.k⟩ nx).ob id=⟨v,F,d.k⟩:=if_pos rfl
 refine ⟨by rw [e],?_⟩
 rw [e]
 exact ho
theorem storeHol_sound (hE:EnvOk P E) (hw:WRel X G) {dst ty pos after gd t} {x y:Operand} {e:Operand→AV} (hx:RelV X (e x) (a.eval x)) (hy:RelV X (e y) (a.eval y)) {id off:Nat} {i:Int} (hex:e x=.elp id i off) {d:Data} {cs:List AV} (hb:hgt X.hp id=.hol d i cs)
  (hsz:szT (E.td t) (cellsOf (e y)).length=true) (hc1:(isAggV (e y) || isC X.hp (e y))=true) (hc2:areC X.hp (cellsOf (e y))=true) (hfit:off+(cellsOf (e y)).length≤cs.length) :
  OpH P X G ⟨dst,.store t x y,ty,pos,after,gd⟩ a .any (hput id (.hol d i (setAt cs off (cellsOf (e y)))) (hput id .dead X.hp)) X.nx:=by
 rw [hex] at hx
 obtain ⟨g,b0,hav,hb0,hob,hi0,hi1,_⟩:=hol_cells hw hx hb
 have hid:id < X.nx:=by cases hx;assumption
 obtain ⟨_,hkk,i0,ilt,icl,us,fs,g1,g2,g3,g4,g5,g6,g7⟩:=hol_val hw (RelV.row id (X.ob id).v hid rfl) hb
 obtain ⟨h1,h2⟩:=cells_rel hw hy hc1
 have hone:=areC_one hw (us:=(a.eval y).cells.toList) (by simpa using h1.symm) (fun j c u hj hu=>h2 j c u hj (by simpa using hu)) hc2
 obtain ⟨ii,hii,hisz⟩:=szT_ok hE hsz
 have hlen:(a.eval y).cells.toList.length=(cellsOf (e y)).length:=by rw [Array.length_toList,h1]
 have husl:us.length=d.l.length * d.k.esz:=g1.1
 have hesz0:0 < d.k.esz:=by cases d.k<;>decide
 have hrow:(i.toNat+1) * d.k.esz≤d.l.length * d.k.esz:=Nat.mul_le_mul_right _ ilt
 have hrow':(i.toNat+1) * d.k.esz=i.toNat * d.k.esz+d.k.esz:=by rw [Nat.add_mul,Nat.one_mul]
 have hl:live X id:=by unfold live;rw [hb];simp
 rcases g1.2 with ⟨hn,h0⟩ | ⟨g',cap,cur,fz,hn,⟨eb,hg,htg⟩,hfz,hcap,hmax,hcsz,htk⟩
 ·omega
 have hgg:g'=g:=by rw [hn] at hob;simpa [Value.ownBlock] using hob
 subst hgg
 have hcapl:d.l.length * d.k.esz≤cur.size:=by rw [hcsz];exact Nat.mul_le_mul_right _ hcap
 generalize hus2:(a.eval y).cells.toList=us2 at *
 obtain ⟨w',cur',r1,r2,r3,r4,r5⟩:=st_cells (P:=P) (o:=i.toNat * d.k.esz+off) us2 0 cur X.w hg hfz.1 (by omega) hone
 have hfree:Free (killC X id) G (X.ob id).F:=kill_free hw hl
 have hfreeg:Free (killC X id) G (fun n=>n=g'):=hfree.sub fun n hn'=>(g7 n).2 (.inl (by rw [hob,hn']))
 obtain ⟨e1,w1,f1⟩:=world_shows (kill_rel hw id) hfreeg r5
 have hyl:(a.eval y).cells.size=us2.length:=by rw [← hus2,Array.length_toList]
 refine opH_skip (w':=w') ?_ ?_
 ·have hav':a.eval x=.pointer (some ⟨g',i.toNat * d.k.esz+off,none⟩):=by rw [hav,hb0]
  simp only [execOp,hav',Sem.run_bind,run_storeAt hii (by rw [hisz,hyl,hlen]) (by rw [hus2];exact r1),Result.andThen_ok,Sem.run_pure]
 ·generalize hX1:({ killC X id with w:=w' }:Ctx)=X1 at *
  have xw:X1.w=w':=by rw [← hX1]
  have xh:X1.hp=hput id .dead X.hp:=by rw [← hX1]
  have xn:X1.nx=X.nx:=by rw [← hX1]
  have xe:X1.ety=X.ety:=by rw [← hX1]
  have xo:X1.ob id=X.ob id:=by rw [← hX1]
  have eX:Ext X X1:=Ext.trans (X:=X) (Y:=killC X id) (Z:=X1) (fun _ _ h=>h) (kill_same id).ext e1
  have hold:id < X1.nx→(X.ob id).v=(X1.ob id).v∧d.k=(X1.ob id).k:=fun _=>by rw [xo];exact ⟨rfl,hkk⟩
  have hsame:=set_same (X:=X1) (id:=id) (ob:=.hol d i (setAt cs off (cellsOf (e y)))) (i:=⟨(X.ob id).v,(X.ob id).F,d.k⟩) (nx:=X.nx) (by omega) hold
  have eS:=eX.trans (fun b hb _=>w1.rl b (eX.R b hb)) hsame.ext
  refine ⟨setC X1 id (.hol d i (setAt cs off (cellsOf (e y)))) ⟨(X.ob id).v,(X.ob id).F,d.k⟩ X.nx,eS,?_,by show hput _ _ X1.hp=_;rw [xh],rfl,xw,.any _⟩
  refine setHol_rel w1 (by omega) hid hold (f1 _ hfree) ?_
  let us':=setL us (i.toNat * d.k.esz+off) us2
  have hbl:i.toNat * d.k.esz+off+us2.length≤us.length:=by omega
  have hus':us'.length=us.length:=setL_len hbl
  refine ⟨i0,ilt,by rw [setAt_len hfit,icl],us',fs,?_,fun j cd u hj hc hu=>?_,fun j c u hj hu=>?_,g4,fun j k b hj hk=>g5 j k b (by omega) (by omega),fun j b hj=>g6 j b (by omega),fun b=>by rw [g7 b,hus']⟩
  ·show ownR X1.w (X1.ety d.k) d.k.esz (X.ob id).v d.l.length us'
   rw [xw,xe]
   refine ⟨by rw [hus',husl],.inr ⟨g',cap,cur',fz,hn,⟨eb,r2,htg⟩,by rw [r3];exact hfz,hcap,hmax,by rw [r3];exact hcsz,?_⟩⟩
   apply List.ext_getElem?
   intro j
   show _=(setL us (i.toNat * d.k.esz+off) us2)[j]?
   rw [setL_get hbl,List.getElem?_take,Array.getElem?_toList,r4 j,Nat.add_zero,← htk,List.getElem?_take,Array.getElem?_toList]
   by_cases hj:j < d.l.length * d.k.esz
   ·rw [if_pos hj,if_pos hj,Array.getElem?_toList]
   ·rw [if_neg hj,if_neg (by omega),if_neg hj]
  ·have hc':(d.l.map (elemCD X.ety d.k)).flatten[j]?=some cd:=by
    have:(setC X1 id (.hol d i (setAt cs off (cellsOf (e y)))) ⟨(X.ob id).v,(X.ob id).F,d.k⟩ X.nx).ety=X.ety:=xe
    rw [this] at hc
    exact hc
   have hu':us[j]?=some u:=by
    rw [show us'[j]?=_ from setL_get hbl,if_neg ?_] at hu
    ·exact hu
    ·intro hin
     apply hj
     have:j=i.toNat * d.k.esz+(j - i.toNat * d.k.esz):=by omega
     rw [this]
     exact div_elem (by omega)
   show Own X1.w cd u (fs j)
   rw [xw]
   refine (g2 j cd u hj hc' hu').keep fun b hb=>r5.block b ?_ fun hbg=>?_
   ·exact (g2 j cd u hj hc' hu').lt b hb
   ·exact g6 j b (List.getElem?_eq_some_iff.1 hu').1 hb (by rw [hob,hbg])
  ·rw [setAt_get hfit] at hj
   rw [show us'[i.toNat * d.k.esz+j]?=_ from setL_get hbl] at hu
   split at hj
   ·rename_i hjj
    rw [if_pos ⟨by omega,by omega⟩,show i.toNat * d.k.esz+j - (i.toNat * d.k.esz+off)=j - off by omega] at hu
    refine ⟨(h2 _ c u hj ?_).ext eS,hone u (List.mem_of_getElem? hu)⟩
    have:(a.eval y).cells.toList[j - off]?=some u:=by rw [hus2];exact hu
    simpa using this
   ·rename_i hjj
    rw [if_neg (fun h=>hjj ⟨by omega,by omega⟩)] at hu
    have:=g3 j c u hj hu
    exact ⟨this.1.ext eS,this.2⟩
end
end Go.Ab
