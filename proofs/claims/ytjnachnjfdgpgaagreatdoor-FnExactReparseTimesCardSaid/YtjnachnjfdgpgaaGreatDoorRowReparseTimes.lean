import Derived.Test.YtjnachnjfdgpgaaGreatDoorFnRt
import Derived.Test.YtjnachnjfdgpgaaGreatDoorEng4
import Derived.Test.YtjnachnjfdgpgaaGreatDoorRowJReparseTimes
import Derived.Test.YtjnachnjfdgpgaaGreatDoorRows
import Derived.Test.YtjnachnjfdgpgaaGreatDoorCards
import Derived.Test.YtjnachnjfdgpgaaGreatDoorTie
import Derived.LaidMore
import Derived.Lay
import Derived.SevenTiedAt
import Derived.Stop.LaidErr
import Derived.LaidLaws
import Derived.Lib.LaidTab
set_option linter.all false
namespace Go.Ab
open Go Go.Proofs.Tryz Go.ChangeShapes Go.WideShapes Go.ChangeAt Go.RowKit
theorem own0:ownKnob P0.godebug=none:=by kernel_rfl
theorem laidOut0:laidOutB P0=true:=by kernel_rfl
theorem handed_and_shaped {H:Type} {enc:TypeId × Value→H} {a:Assume} {C:Checked} {os:Os} {f:FuncId} {fn:Func} {s:ChangeSpec} {conds:List PathCond} {apart fresh handsOn again:Bool} {X:World→Array Value→Prop}
  (hX:∀ (w w':World) (args:Array Value),w.heap=w'.heap→X w args→X w' args)
  (own:ownKnob C.prog.godebug=none) (started:os.Started) (noInit:C.prog.inits.idxOf? f=none) (hfn:C.prog.funcs[f]?=some fn)
  (witness:∃ (w:World) (tape:Tape) (i:Input),w.os=os∧(w.forCall tape i).Shaped C.prog∧i.vars=[]∧Input.okWide C.prog (w.forCall tape i) .any w.heap.size f i ∧
   ((s.pre enc C.prog fn conds apart (w.forCall tape i).memory i.args∧X (w.forCall tape i).memory i.args)∧sizedMet enc C.prog fn (OpenSpec.ofChange s) apart (w.forCall tape i).memory i.args)∧a.holds C.prog (lone (Frame.enter C.prog f i.args .normal) [] (w.forCall tape i)))
  (contract:∀ (W:World) (base:Nat) (args:Array Value) (ds gs:List (DataW H)) (before:List MemPlace),
   (∀ (j:Nat) t v,fn.params[j]?=some t→args[j]?=some v→Value.okWide C.prog W .any base t v) →
   DataW.Whole enc C.prog fn.params.toList s.vars apart W args.toList ds gs before →
   conds.all (PathCond.test C.prog ⟨fn.params.toList,ds,s.plain.varTypes C.prog,gs⟩)=true →
   X W args→W.ShapedOpen C.prog →
   Calls C.prog f args W fun e W'=>∃ v,e=.returned v∧s.post enc C.prog fn apart fresh handsOn again W args v W') :
  ReturnsInHanded a C os f .any (fun w args=>(s.pre enc C.prog fn conds apart w args∧X w args)∧sizedMet enc C.prog fn (OpenSpec.ofChange s) apart w args) (s.post enc C.prog fn apart fresh handsOn again):=by
 refine returnsInHanded_of_calls own started noInit witness ?_
 intro w tape i _ hsh _ hok hpre _
 obtain ⟨_,_,_,fn',hfn',_,_,_,_,hval⟩:=hok
 have e:fn'=fn:=Option.some.inj (hfn'.symm.trans hfn)
 subst e
 obtain ⟨⟨⟨ds,gs,before,hw,hc⟩,hx⟩,_⟩:=hpre
 have hw':=DataW.Whole.of_heap (w':=w.forCall tape i) (by rfl) hw
 refine (contract (w.forCall tape i) w.heap.size i.args ds gs before hval hw' hc (hX _ _ _ (by rfl) hx) hsh).mono fun e W' ⟨v,he,hp⟩=>?_
 subst he
 exact ChangeSpec.post_blind hp
mutual
theorem nd_of:∀ x:Node,fitNo x→fitNd x
 | .mk k s n t a ks=>fun h=>by
  rw [fitNo] at h;rw [fitNd]
  exact ⟨h.1,h.2.1,h.2.2.1,h.2.2.2.1,nds_of ks h.2.2.2.2⟩
theorem nds_of:∀ l:List Node,fitNos l→fitNds l
 | []=>fun _=>trivial
 | x :: r=>fun h=>by
  rw [fitNos] at h;rw [fitNds]
  exact ⟨nd_of x h.1,nds_of r h.2⟩
end
theorem fitNds_of {l:List Node} (h1:l.length≤mxl) (h2:∀ x∈l,fitNo x):fitL fitNd l:=⟨h1,fun x hx=>nd_of x (h2 x hx)⟩
end Go.Ab
namespace Go.Proofs.YtjnachnjfdgpgaaGreatDoor
open Go Go.Ab Go.ChangeShapes Go.WideShapes Go.ChangeAt Go.RowKit
abbrev laid0:List (String × DataW Unit):=Rows.fnExactReparseTimesRow.laid
set_option maxRecDepth 100000
theorem laid_drop {P:Program} {l:List (String × DataW Unit)} {w:World} (h:laidMet P l w):∀ k,laidMet P (l.drop k) w
 | 0=>h
 | k+1=>by
  have ih:=laid_drop h k
  rw [← List.tail_drop]
  generalize l.drop k=r at ih
  cases r with
  | nil=>exact ih
  | cons x r=>exact ih.tail
theorem starE:"*"++"errors.errorString"="*errors.errorString":=by decide
theorem rowE (u:TypeId) (h:Tryz.prog.typeName? 3 u=some "*errors.errorString"):u=296 :=
 typeName_ptr_named (nm:="errors.errorString") (by rw [starE];kernel_rfl) (by kernel_rfl) (by decide) u (by rw [starE];exact h)
theorem sentE {W:World} {n:String} {text:List UInt8} {g:Nat} {k:Nat} (h:laidMet Tryz.prog laid0 W) (e:laid0.drop k=(n,.iface "*errors.errorString" (.ptr (.agg [.lit (.string text)]))) :: laid0.drop (k+1))
  (hg:Tryz.prog.globalNamed n=some g) (ht:(Tryz.prog.globals[g]?).map (·.type)=some 123):∃ tp p,W.var? Tryz.prog n=some #[.iface tp p]:=by
 have h1:=laid_drop h k
 rw [e] at h1
 obtain ⟨a,s,hv,_⟩:=laid_sentinel h1 hg ht (Tryz.underlying123) rowE (Tryz.underlying296) (Tryz.underlying298) rfl rfl (Tryz.underlying9) (by kernel_rfl) (by kernel_rfl)
 exact ⟨_,_,hv⟩
theorem kn_of {W:World} (hsh:W.ShapedOpen P0) (h:laidMetH Tryz.prog laid0 W):Kn0 W:=by
 rw [MakeChecks.laidMetH_plain _ _ _ (by kernel_rfl)] at h
 refine ⟨hsh,?_,sentE (k:=5) (text:=[105,110,118,97,108,105,100,32,115,121,110,116,97,120]) h (by kernel_rfl) (g:=1) (by kernel_rfl) (by kernel_rfl),sentE (k:=4) (text:=[118,97,108,117,101,32,111,117,116,32,111,102,32,114,97,110,103,101]) h (by kernel_rfl) (g:=2) (by kernel_rfl) (by kernel_rfl)⟩
 have h1:=laid_drop h 2
 rw [show laid0.drop 2=("internal/strconv.uint64pow10",Lib.tabData .u64 Lib.pow10Tab) :: laid0.drop 3 by kernel_rfl] at h1
 exact Lib.tabIs_of_head (g:=5) (t:=300) (e:=271) (n:=20) (by kernel_rfl) (by kernel_rfl) (Tryz.underlying300) (Tryz.underlying271) (by kernel_rfl) (by kernel_rfl) h1
set_option maxRecDepth 100000 in
theorem reparseTimes_lifted (os:Os) (started:os.Started) (H:Type) (enc:TypeId × Value→H) :
  ReturnsInHanded {} Tryz.checked os 6 .any (fun w args=>(Rows.fnExactReparseTimesSpec.pre enc Tryz.prog Tryz.f6 [] false w args∧laidMetH Tryz.prog laid0 w)∧sizedMet enc Tryz.prog Tryz.f6 (OpenSpec.ofChange Rows.fnExactReparseTimesSpec) false w args) (Rows.fnExactReparseTimesSpec.post enc Tryz.prog Tryz.f6 false true false false):=by
 refine handed_and_shaped (C:=Tryz.checked) (X:=fun w _=>laidMetH Tryz.prog laid0 w) (fun _ _ _ hh h=>h.of_heap hh) own0 started (by kernel_rfl) Tryz.func6
  (ChangeSpec.witness_shaped (enc:=enc) (C:=Tryz.checked) (os:=os) (X:=fun w _=>laidMetH Tryz.prog laid0 w) false (World.laidAll Tryz.prog os laid0) #[.slice none 0 0,.int .i64 0] 8 (World.laidAll_os _ _ _)
   (World.shaped_of_ZipB (by kernel_rfl) (by kernel_rfl)) (by kernel_rfl) (by kernel_rfl) (by kernel_rfl)
   (by rw [MakeChecks.laidMetH_plain _ _ _ (by kernel_rfl)];exact laidMet_laidAll _ (by kernel_rfl) (by kernel_rfl))) ?_
 intro W base args ds gs before hval0 hW hcnd hlaid hsh
 have hval:∀ (j:Nat) t v,Tryz.f6.params[j]?=some t→args[j]?=some v→Value.okWide Tryz.prog W .any base t v:=hval0
 have hW1:=hW
 obtain ⟨p,q,hA0,hV,_⟩:=hW1
 have hA:DataW.TrodAll enc Tryz.prog W 0 (fun _=>true) true Tryz.f6.params.toList args.toList ds p:=hA0
 rw [Tryz.params6] at hA hval
 obtain ⟨v0,v1,d0,d1,p0,p1,rfl,rfl,rfl,h0,h1⟩:=trodAll_two hA
 obtain ⟨rfl,rfl⟩:=trodVars_none hV
 have hnot0:∀ cs,v0≠.agg cs:=by
  intro cs hc
  obtain ⟨a,len,cap,he⟩:=okWide_slice Tryz.underlying25 (hval 0 _ v0 rfl rfl)
  rw [hc] at he;cases he
 obtain ⟨x0,hlen0,hf0,hx0⟩:=entry_sl (ety:=ety0) (k:=.node) (e:=56) hnot0 (fun n=>(carF_node2 Tryz.underlying56 (by simp) (by kernel_rfl) Tryz.underlying3 Tryz.underlying9 (slF_all Tryz.underlying54 (by kernel_rfl) (by decide) (carF_attr Tryz.underlying146 (by simp) (by kernel_rfl) Tryz.underlying9 (by kernel_rfl))) Tryz.underlying25 (by kernel_rfl) (by kernel_rfl) (by kernel_rfl) (by kernel_rfl) n).2) h0
 obtain ⟨x1,hf1,hx1⟩:=entry_int (ety:=ety0) Tryz.underlying3 (okWide_int Tryz.underlying3 (hval 1 _ v1 rfl rfl)) h1
 have hrel:RelA (ctx0 ety0 W (allR W)) (.agg [.dat ⟨.node,x0⟩,.int .i64 x1]) (.agg #[v0,v1]) (fun _=>False):=.pl _ _ _ (.agg _ _ rfl fun j c u hj hu=>by
  match j,hj,hu with
  | 0,hj,hu=>cases hj;cases hu;exact hx0
  | 1,hj,hu=>cases hj;cases hu;exact hx1) (fun _ h=>h)
 refine (c_lawReparseTimes.ok _ _ _ _ (sp_lawReparseTimes_run x0 x1) (fun q hq=>by cases hq;exact fitNds_of hlen0 hf0) W (allR W) #[v0,v1] (fun _=>False) hrel (fun _ h=>h) (fun _ h=>h.elim) (fun _ h=>h.elim) (gi_start (kn_of hsh hlaid))).mono fun e W' h=>?_
 obtain ⟨v,R',F',rfl,_,_,_,hr,_,_,hk⟩:=h
 obtain ⟨F'',hr,_⟩:=hr.head
 have hv:v=.bool true:=by
  cases hr with
  | pl _ _ _ h _=>exact h.bool_inv
 subst hv
 have hrd:∀ t∈Tryz.f6.params.toList,Tryz.prog.readableRec t=true∧t < Tryz.prog.types.size:=by
  rw [Tryz.params6]
  intro t ht
  have ht':t=25∨t=3:=by simpa using ht
  rcases ht' with rfl | rfl<;>exact ⟨by kernel_rfl,of_decide_eq_true (by kernel_rfl)⟩
 exact ⟨_,rfl,law_post laidOut0 rfl rfl Tryz.underlying4 hrd rfl hW hk⟩
theorem reparseTimes_named:Tryz.pinned.checked.prog.funcNamed Rows.fnExactReparseTimesRow.func=some 6:=by kernel_rfl
theorem reparseTimes_inst:Tryz.f6.isInstance Tryz.pinned.checked.prog Rows.fnExactReparseTimesRow.origin Rows.fnExactReparseTimesRow.targs:=of_decide_eq_true (by kernel_rfl)
theorem reparseTimes_wrap:Tryz.f6.isWrapper Tryz.pinned.checked.prog Rows.fnExactReparseTimesRow.wrapper Rows.fnExactReparseTimesRow.mainSum:=by unfold Func.isWrapper;first | (rw [if_pos (by decide +kernel)];kernel_rfl) | (rw [if_neg (by decide +kernel)];exact ⟨rfl,rfl⟩)
theorem reparseTimes_row:Rows.FnExactReparseTimesSaid :=
 OpenClaim.holds_of_wide 6 Tryz.f6 rfl rfl rfl rfl rfl rfl rfl ⟨rfl,rfl,rfl,rfl,rfl⟩ rfl rfl rfl rfl rfl reparseTimes_named Tryz.func6 reparseTimes_joined reparseTimes_inst reparseTimes_wrap
  (fun os started H enc _=>reparseTimes_lifted os started H enc)
theorem reparseTimes_wf:Rows.fnExactReparseTimesRow.wfByText (OpenSpec.ofChange Rows.fnExactReparseTimesSpec)=true:=by kernel_rfl
theorem reparseTimes_main:Tryz.pinned.checked.prog.mainIs=some (true,"72d7be917c6ef1659b89a86922a46f36c674b675f8a5276220fef423178a786c".toList):=by kernel_rfl
theorem reparseTimes_looks:true=Tryz.pinned.checked.prog.looks []:=by kernel_rfl
theorem reparseTimes_goes:false=Rows.fnExactReparseTimesRow.goesBy Tryz.pinned.checked.prog:=by kernel_rfl
theorem reparseTimes_holds:Rows.FnExactReparseTimesCardSaid :=
 Claim7.holds_tied_plain_at .later [] [.data,.data,.data,.data,.sentinel,.sentinel,.pinned] true (true,"72d7be917c6ef1659b89a86922a46f36c674b675f8a5276220fef423178a786c") true
  reparseTimes_row (fun _ h=>by cases h) reparseTimes_wf (fun _ h=>by cases h) fnExactReparseTimes_row_tie rfl ⟨rfl,rfl⟩ reparseTimes_main rfl
  (fun f fn hf hfn=>by
   obtain rfl:f=6:=Option.some.inj (reparseTimes_named.symm.trans hf) |>.symm
   obtain rfl:fn=Tryz.f6:=(Option.some.inj (Tryz.func6.symm.trans hfn)).symm
   exact ⟨reparseTimes_looks,fun j t ht=>by
    rw [Tryz.params6] at ht
    have hm:t∈[25,3]:=by simpa using Array.mem_of_getElem? ht
    have hall:([25,3].all fun u=>!Tryz.prog.wantsStandIn u)=true:=by kernel_rfl
    exact (show Tryz.prog.wantsStandIn t=false by simpa using List.all_eq_true.1 hall t hm)⟩)
  reparseTimes_goes
#print axioms reparseTimes_holds
end Go.Proofs.YtjnachnjfdgpgaaGreatDoor
