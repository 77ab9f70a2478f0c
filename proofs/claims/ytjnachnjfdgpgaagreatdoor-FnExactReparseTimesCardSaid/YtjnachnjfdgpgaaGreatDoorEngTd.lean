import Derived.Test.YtjnachnjfdgpgaaGreatDoorEng4
import Derived.Lib.LaidTab
import Derived.Lib.ItoaNum
import Derived.Test.YtjnachnjfdgpgaaGreatDoorProg
set_option linter.all false
namespace Go.Ab
open Go
noncomputable abbrev P0:Program:=Go.Proofs.Tryz.prog
def Kn0 (w0:World):Prop:=w0.ShapedOpen P0∧Lib.TabIs P0 w0 "internal/strconv.uint64pow10" .u64 Lib.pow10Tab∧(∃ tp p,w0.var? P0 "strconv.ErrSyntax"=some #[.iface tp p])∧∃ tp p,w0.var? P0 "strconv.ErrRange"=some #[.iface tp p]
noncomputable instance gi0:GI:=⟨fun w R=>∃ w0:World,Kn0 w0∧∀ b,b < w0.heap.size→R b∧w.heap[b]?=w0.heap[b]?,fun {w w' R R'} h hR hm=>by
 obtain ⟨w0,h1,h2⟩:=h
 refine ⟨w0,h1,fun b hb=>⟨hR b (h2 b hb).1,?_⟩⟩
 have e:=(h2 b hb).2
 have hlt:b < w.heap.size:=by
  rw [Array.getElem?_eq_getElem hb] at e
  exact (Array.getElem?_eq_some_iff.1 e).1
 rw [hm b (h2 b hb).1 hlt,e]⟩
theorem gi_start {W:World} (h:Kn0 W):GI.p W fun b=>b < W.heap.size:=⟨W,h,fun _ hb=>⟨hb,rfl⟩⟩
theorem gi_cell {w0 w:World} {R:Nat→Prop} (h:∀ b,b < w0.heap.size→R b∧w.heap[b]?=w0.heap[b]?) {a:Addr} {v:Value} (hc:w0.cell? a=some v):w.cell? a=some v:=by
 rw [World.cell?_of_block (h _ (World.block_lt_of_cell? _ _ hc)).2];exact hc
theorem gi_var {w0 w:World} {R:Nat→Prop} (h:∀ b,b < w0.heap.size→R b∧w.heap[b]?=w0.heap[b]?) {n:String} {cs:Array Value} (hc:w0.var? P0 n=some cs):w.var? P0 n=some cs:=by
 unfold World.var? at hc ⊢
 cases hg:P0.globalNamed n with
 | none=>rw [hg] at hc;cases hc
 | some g =>
  rw [hg] at hc
  simp only [Option.bind_some] at hc ⊢
  have hlt:g < w0.heap.size:=by
   rcases Nat.lt_or_ge g w0.heap.size with h' | h'
   ·exact h'
   ·simp [Array.getElem?_eq_none h'] at hc
  rw [(h g hlt).2];exact hc
theorem gi_tab {w:World} {R:Nat→Prop} (h:GI.p w R):Lib.TabIs P0 w "internal/strconv.uint64pow10" .u64 Lib.pow10Tab:=by
 obtain ⟨w0,⟨_,h1,_⟩,h2⟩:=h
 exact gi_var h2 h1
theorem gi_syn {w:World} {R:Nat→Prop} (h:GI.p w R):∃ tp p,w.var? P0 "strconv.ErrSyntax"=some #[.iface tp p]:=by
 obtain ⟨w0,⟨_,_,⟨tp,p,h1⟩,_⟩,h2⟩:=h
 exact ⟨tp,p,gi_var h2 h1⟩
theorem gi_ran {w:World} {R:Nat→Prop} (h:GI.p w R):∃ tp p,w.var? P0 "strconv.ErrRange"=some #[.iface tp p]:=by
 obtain ⟨w0,⟨_,_,_,tp,p,h1⟩,h2⟩:=h
 exact ⟨tp,p,gi_var h2 h1⟩
def td:TypeId→TD
 | 2=>.one (.int .i64 0)
 | 3=>.one (.int .i64 0)
 | 4=>.one (.bool false)
 | 5=>.one (.int .u8 0)
 | 6=>.one (.int .u8 0)
 | 7=>.st 4 [(0,1,false),(1,1,false),(2,1,false),(3,1,false)] [.int .i64 0,.int .i64 0,.bool false,.int .u8 0]
 | 8=>.st 4 [(0,1,false),(1,1,false),(2,1,false),(3,1,false)] [.int .i64 0,.int .i64 0,.bool false,.int .u8 0]
 | 9=>.one (.str [])
 | 10=>.one (.str [])
 | 11=>.one (.str [])
 | 12=>.one (.int .u64 0)
 | 13=>.st 2 [(0,1,false),(1,1,false)] [.str [],.int .u64 0]
 | 14=>.st 2 [(0,1,false),(1,1,false)] [.str [],.int .u64 0]
 | 15=>.one (.val (.pointer none))
 | 16=>.one (.val (.pointer none))
 | 17=>.one (.val (.pointer none))
 | 18=>.st 1 [(0,1,false)] [.val (.pointer none)]
 | 19=>.st 1 [(0,1,false)] [.val (.pointer none)]
 | 20=>.one (.val .nilIface)
 | 21=>.one (.int .i32 0)
 | 25=>.sl .node
 | 28=>.sl .node
 | 38=>.sl .rule
 | 39=>.sl .str
 | 40=>.st 9 [(0,1,false),(1,1,false),(2,1,false),(3,1,false),(4,1,false),(5,1,false),(6,1,false),(7,1,false),(8,1,false)] [.bool false,.bool false,.nilS,.nilS,.nilS,.nilS,.nilS,.bool false,.bool false]
 | 41=>.st 9 [(0,1,false),(1,1,false),(2,1,false),(3,1,false),(4,1,false),(5,1,false),(6,1,false),(7,1,false),(8,1,false)] [.bool false,.bool false,.nilS,.nilS,.nilS,.nilS,.nilS,.bool false,.bool false]
 | 45=>.sl .rule
 | 46=>.st 9 [(0,1,false),(1,1,false),(2,1,false),(3,1,false),(4,1,false),(5,1,false),(6,1,false),(7,1,false),(8,1,false)] [.bool false,.bool false,.nilS,.nilS,.nilS,.nilS,.nilS,.bool false,.bool false]
 | 47=>.st 9 [(0,1,false),(1,1,false),(2,1,false),(3,1,false),(4,1,false),(5,1,false),(6,1,false),(7,1,false),(8,1,false)] [.bool false,.bool false,.nilS,.nilS,.nilS,.nilS,.nilS,.bool false,.bool false]
 | 54=>.sl .attr
 | 55=>.st 6 [(0,1,false),(1,1,false),(2,1,false),(3,1,false),(4,1,false),(5,1,false)] [.int .i64 0,.int .i64 0,.str [],.str [],.nilS,.nilS]
 | 56=>.st 6 [(0,1,false),(1,1,false),(2,1,false),(3,1,false),(4,1,false),(5,1,false)] [.int .i64 0,.int .i64 0,.str [],.str [],.nilS,.nilS]
 | 58=>.sl .attr
 | 59=>.st 6 [(0,1,false),(1,1,false),(2,1,false),(3,1,false),(4,1,false),(5,1,false)] [.int .i64 0,.int .i64 0,.str [],.str [],.nilS,.nilS]
 | 60=>.st 6 [(0,1,false),(1,1,false),(2,1,false),(3,1,false),(4,1,false),(5,1,false)] [.int .i64 0,.int .i64 0,.str [],.str [],.nilS,.nilS]
 | 77=>.one (.val (.pointer none))
 | 78=>.sl .opn
 | 79=>.st 4 [(0,1,false),(1,1,false),(2,1,false),(3,1,false)] [.nilS,.nilS,.int .i64 0,.int .i64 0]
 | 80=>.st 4 [(0,1,false),(1,1,false),(2,1,false),(3,1,false)] [.nilS,.nilS,.int .i64 0,.int .i64 0]
 | 82=>.st 7 [(0,1,false),(1,1,false),(2,1,false),(3,1,false),(4,1,false),(5,1,false),(6,1,false)] [.int .i64 0,.int .i64 0,.int .i64 0,.str [],.str [],.nilS,.bool false]
 | 83=>.st 7 [(0,1,false),(1,1,false),(2,1,false),(3,1,false),(4,1,false),(5,1,false),(6,1,false)] [.int .i64 0,.int .i64 0,.int .i64 0,.str [],.str [],.nilS,.bool false]
 | 91=>.one (.val (.pointer none))
 | 92=>.sl .nodes
 | 93=>.st 3 [(0,1,false),(1,1,false),(2,1,false)] [.nilS,.nilS,.int .i64 0]
 | 94=>.st 3 [(0,1,false),(1,1,false),(2,1,false)] [.nilS,.nilS,.int .i64 0]
 | 98=>.sl .u8
 | 99=>.st 2 [(0,1,false),(1,1,false)] [.str [],.str []]
 | 100=>.st 2 [(0,1,false),(1,1,false)] [.str [],.str []]
 | 103=>.sl .int
 | 106=>.st 3 [(0,1,false),(1,1,false),(2,1,false)] [.int .i64 0,.str [],.nilS]
 | 107=>.st 3 [(0,1,false),(1,1,false),(2,1,false)] [.int .i64 0,.str [],.nilS]
 | 110=>.st 3 [(0,1,false),(1,1,false),(2,1,false)] [.int .i64 0,.str [],.nilS]
 | 119=>.one (.val (.pointer none))
 | 120=>.st 2 [(0,1,false),(1,1,false)] [.val (.pointer none),.nilS]
 | 121=>.st 2 [(0,1,false),(1,1,false)] [.val (.pointer none),.nilS]
 | 122=>.one (.val .nilIface)
 | 123=>.one (.val .nilIface)
 | 131=>.st 2 [(0,1,false),(1,1,false)] [.str [],.int .i64 0]
 | 132=>.st 2 [(0,1,false),(1,1,false)] [.str [],.int .i64 0]
 | 146=>.st 2 [(0,1,false),(1,1,false)] [.str [],.str []]
 | 151=>.one (.val (.pointer none))
 | 160=>.one (.val (.pointer none))
 | 162=>.one (.val (.pointer none))
 | 192=>.one (.int .u32 0)
 | 195=>.st 2 [(0,1,false),(1,1,false)] [.int .i32 0,.int .u32 0]
 | 196=>.st 2 [(0,1,false),(1,1,false)] [.int .i32 0,.int .u32 0]
 | 201=>.one (.val .nilIface)
 | 202=>.one (.val .nilIface)
 | 215=>.one (.val (.pointer none))
 | 227=>.one (.val (.pointer none))
 | 229=>.one (.val (.pointer none))
 | 231=>.one (.val (.pointer none))
 | 233=>.one (.val (.pointer none))
 | 237=>.one (.val (.pointer none))
 | 241=>.one (.val (.pointer none))
 | 246=>.one (.int .u64 0)
 | 247=>.one (.val (.pointer none))
 | 248=>.one (.int .i64 0)
 | 251=>.one (.val (.pointer none))
 | 255=>.one (.val (.pointer none))
 | 258=>.one (.val (.pointer none))
 | 260=>.st 2 [(0,1,false),(1,1,false)] [.val (.pointer none),.str []]
 | 261=>.st 2 [(0,1,false),(1,1,false)] [.val (.pointer none),.str []]
 | 262=>.one (.val (.pointer none))
 | 264=>.st 5 [(0,1,false),(1,1,false),(2,1,false),(3,1,false),(4,1,false)] [.str [],.int .i64 0,.str [],.val (.pointer none),.nilS]
 | 265=>.st 5 [(0,1,false),(1,1,false),(2,1,false),(3,1,false),(4,1,false)] [.str [],.int .i64 0,.str [],.val (.pointer none),.nilS]
 | 271=>.one (.int .u64 0)
 | 282=>.one (.val (.pointer none))
 | 284=>.one (.val (.pointer none))
 | 292=>.st 2 [(0,1,false),(1,1,false)] [.int .u8 0,.int .u8 0]
 | 293=>.st 2 [(0,1,false),(1,1,false)] [.int .u8 0,.int .u8 0]
 | 296=>.one (.val (.pointer none))
 | 297=>.st 1 [(0,1,false)] [.str []]
 | 298=>.st 1 [(0,1,false)] [.str []]
 | 308=>.st 4 [(0,1,false),(1,1,false),(2,1,false),(3,1,false)] [.val (.pointer none),.val (.pointer none),.val (.pointer none),.str []]
 | 309=>.st 4 [(0,1,false),(1,1,false),(2,1,false),(3,1,false)] [.val (.pointer none),.val (.pointer none),.val (.pointer none),.str []]
 | 314=>.one (.int .u8 0)
 | 315=>.one (.int .u8 0)
 | 317=>.one (.int .i32 0)
 | 318=>.one (.int .i32 0)
 | 319=>.st 11 [(0,1,false),(1,1,false),(2,1,false),(3,1,false),(4,1,false),(5,1,false),(6,1,false),(7,1,false),(8,1,false),(9,1,false),(10,1,false)] [.int .u64 0,.int .u64 0,.int .u32 0,.int .u8 0,.int .u8 0,.int .u8 0,.int .u8 0,.val .nilFunc,.val (.pointer none),.int .i32 0,.int .i32 0]
 | 320=>.st 11 [(0,1,false),(1,1,false),(2,1,false),(3,1,false),(4,1,false),(5,1,false),(6,1,false),(7,1,false),(8,1,false),(9,1,false),(10,1,false)] [.int .u64 0,.int .u64 0,.int .u32 0,.int .u8 0,.int .u8 0,.int .u8 0,.int .u8 0,.val .nilFunc,.val (.pointer none),.int .i32 0,.int .i32 0]
 | 322=>.sl .u8
 | 323=>.one (.val (.pointer none))
 | 324=>.one (.val .nilIface)
 | 325=>.one (.val .nilIface)
 | 326=>.one (.val .nilIface)
 | 327=>.one (.val .nilIface)
 | _=>.unk
@[push_cast] theorem td_2:td 2=.one (.int .i64 0):=rfl
@[push_cast] theorem td_3:td 3=.one (.int .i64 0):=rfl
@[push_cast] theorem td_4:td 4=.one (.bool false):=rfl
@[push_cast] theorem td_5:td 5=.one (.int .u8 0):=rfl
@[push_cast] theorem td_6:td 6=.one (.int .u8 0):=rfl
@[push_cast] theorem td_7:td 7=.st 4 [(0,1,false),(1,1,false),(2,1,false),(3,1,false)] [.int .i64 0,.int .i64 0,.bool false,.int .u8 0]:=rfl
@[push_cast] theorem td_8:td 8=.st 4 [(0,1,false),(1,1,false),(2,1,false),(3,1,false)] [.int .i64 0,.int .i64 0,.bool false,.int .u8 0]:=rfl
@[push_cast] theorem td_9:td 9=.one (.str []):=rfl
@[push_cast] theorem td_10:td 10=.one (.str []):=rfl
@[push_cast] theorem td_11:td 11=.one (.str []):=rfl
@[push_cast] theorem td_12:td 12=.one (.int .u64 0):=rfl
@[push_cast] theorem td_13:td 13=.st 2 [(0,1,false),(1,1,false)] [.str [],.int .u64 0]:=rfl
@[push_cast] theorem td_14:td 14=.st 2 [(0,1,false),(1,1,false)] [.str [],.int .u64 0]:=rfl
@[push_cast] theorem td_15:td 15=.one (.val (.pointer none)):=rfl
@[push_cast] theorem td_16:td 16=.one (.val (.pointer none)):=rfl
@[push_cast] theorem td_17:td 17=.one (.val (.pointer none)):=rfl
@[push_cast] theorem td_18:td 18=.st 1 [(0,1,false)] [.val (.pointer none)]:=rfl
@[push_cast] theorem td_19:td 19=.st 1 [(0,1,false)] [.val (.pointer none)]:=rfl
@[push_cast] theorem td_20:td 20=.one (.val .nilIface):=rfl
@[push_cast] theorem td_21:td 21=.one (.int .i32 0):=rfl
@[push_cast] theorem td_25:td 25=.sl .node:=rfl
@[push_cast] theorem td_28:td 28=.sl .node:=rfl
@[push_cast] theorem td_38:td 38=.sl .rule:=rfl
@[push_cast] theorem td_39:td 39=.sl .str:=rfl
@[push_cast] theorem td_40:td 40=.st 9 [(0,1,false),(1,1,false),(2,1,false),(3,1,false),(4,1,false),(5,1,false),(6,1,false),(7,1,false),(8,1,false)] [.bool false,.bool false,.nilS,.nilS,.nilS,.nilS,.nilS,.bool false,.bool false]:=rfl
@[push_cast] theorem td_41:td 41=.st 9 [(0,1,false),(1,1,false),(2,1,false),(3,1,false),(4,1,false),(5,1,false),(6,1,false),(7,1,false),(8,1,false)] [.bool false,.bool false,.nilS,.nilS,.nilS,.nilS,.nilS,.bool false,.bool false]:=rfl
@[push_cast] theorem td_45:td 45=.sl .rule:=rfl
@[push_cast] theorem td_46:td 46=.st 9 [(0,1,false),(1,1,false),(2,1,false),(3,1,false),(4,1,false),(5,1,false),(6,1,false),(7,1,false),(8,1,false)] [.bool false,.bool false,.nilS,.nilS,.nilS,.nilS,.nilS,.bool false,.bool false]:=rfl
@[push_cast] theorem td_47:td 47=.st 9 [(0,1,false),(1,1,false),(2,1,false),(3,1,false),(4,1,false),(5,1,false),(6,1,false),(7,1,false),(8,1,false)] [.bool false,.bool false,.nilS,.nilS,.nilS,.nilS,.nilS,.bool false,.bool false]:=rfl
@[push_cast] theorem td_54:td 54=.sl .attr:=rfl
@[push_cast] theorem td_55:td 55=.st 6 [(0,1,false),(1,1,false),(2,1,false),(3,1,false),(4,1,false),(5,1,false)] [.int .i64 0,.int .i64 0,.str [],.str [],.nilS,.nilS]:=rfl
@[push_cast] theorem td_56:td 56=.st 6 [(0,1,false),(1,1,false),(2,1,false),(3,1,false),(4,1,false),(5,1,false)] [.int .i64 0,.int .i64 0,.str [],.str [],.nilS,.nilS]:=rfl
@[push_cast] theorem td_58:td 58=.sl .attr:=rfl
@[push_cast] theorem td_59:td 59=.st 6 [(0,1,false),(1,1,false),(2,1,false),(3,1,false),(4,1,false),(5,1,false)] [.int .i64 0,.int .i64 0,.str [],.str [],.nilS,.nilS]:=rfl
@[push_cast] theorem td_60:td 60=.st 6 [(0,1,false),(1,1,false),(2,1,false),(3,1,false),(4,1,false),(5,1,false)] [.int .i64 0,.int .i64 0,.str [],.str [],.nilS,.nilS]:=rfl
@[push_cast] theorem td_77:td 77=.one (.val (.pointer none)):=rfl
@[push_cast] theorem td_78:td 78=.sl .opn:=rfl
@[push_cast] theorem td_79:td 79=.st 4 [(0,1,false),(1,1,false),(2,1,false),(3,1,false)] [.nilS,.nilS,.int .i64 0,.int .i64 0]:=rfl
@[push_cast] theorem td_80:td 80=.st 4 [(0,1,false),(1,1,false),(2,1,false),(3,1,false)] [.nilS,.nilS,.int .i64 0,.int .i64 0]:=rfl
@[push_cast] theorem td_82:td 82=.st 7 [(0,1,false),(1,1,false),(2,1,false),(3,1,false),(4,1,false),(5,1,false),(6,1,false)] [.int .i64 0,.int .i64 0,.int .i64 0,.str [],.str [],.nilS,.bool false]:=rfl
@[push_cast] theorem td_83:td 83=.st 7 [(0,1,false),(1,1,false),(2,1,false),(3,1,false),(4,1,false),(5,1,false),(6,1,false)] [.int .i64 0,.int .i64 0,.int .i64 0,.str [],.str [],.nilS,.bool false]:=rfl
@[push_cast] theorem td_91:td 91=.one (.val (.pointer none)):=rfl
@[push_cast] theorem td_92:td 92=.sl .nodes:=rfl
@[push_cast] theorem td_93:td 93=.st 3 [(0,1,false),(1,1,false),(2,1,false)] [.nilS,.nilS,.int .i64 0]:=rfl
@[push_cast] theorem td_94:td 94=.st 3 [(0,1,false),(1,1,false),(2,1,false)] [.nilS,.nilS,.int .i64 0]:=rfl
@[push_cast] theorem td_98:td 98=.sl .u8:=rfl
@[push_cast] theorem td_99:td 99=.st 2 [(0,1,false),(1,1,false)] [.str [],.str []]:=rfl
@[push_cast] theorem td_100:td 100=.st 2 [(0,1,false),(1,1,false)] [.str [],.str []]:=rfl
@[push_cast] theorem td_103:td 103=.sl .int:=rfl
@[push_cast] theorem td_106:td 106=.st 3 [(0,1,false),(1,1,false),(2,1,false)] [.int .i64 0,.str [],.nilS]:=rfl
@[push_cast] theorem td_107:td 107=.st 3 [(0,1,false),(1,1,false),(2,1,false)] [.int .i64 0,.str [],.nilS]:=rfl
@[push_cast] theorem td_110:td 110=.st 3 [(0,1,false),(1,1,false),(2,1,false)] [.int .i64 0,.str [],.nilS]:=rfl
@[push_cast] theorem td_119:td 119=.one (.val (.pointer none)):=rfl
@[push_cast] theorem td_120:td 120=.st 2 [(0,1,false),(1,1,false)] [.val (.pointer none),.nilS]:=rfl
@[push_cast] theorem td_121:td 121=.st 2 [(0,1,false),(1,1,false)] [.val (.pointer none),.nilS]:=rfl
@[push_cast] theorem td_122:td 122=.one (.val .nilIface):=rfl
@[push_cast] theorem td_123:td 123=.one (.val .nilIface):=rfl
@[push_cast] theorem td_131:td 131=.st 2 [(0,1,false),(1,1,false)] [.str [],.int .i64 0]:=rfl
@[push_cast] theorem td_132:td 132=.st 2 [(0,1,false),(1,1,false)] [.str [],.int .i64 0]:=rfl
@[push_cast] theorem td_146:td 146=.st 2 [(0,1,false),(1,1,false)] [.str [],.str []]:=rfl
@[push_cast] theorem td_151:td 151=.one (.val (.pointer none)):=rfl
@[push_cast] theorem td_160:td 160=.one (.val (.pointer none)):=rfl
@[push_cast] theorem td_162:td 162=.one (.val (.pointer none)):=rfl
@[push_cast] theorem td_192:td 192=.one (.int .u32 0):=rfl
@[push_cast] theorem td_195:td 195=.st 2 [(0,1,false),(1,1,false)] [.int .i32 0,.int .u32 0]:=rfl
@[push_cast] theorem td_196:td 196=.st 2 [(0,1,false),(1,1,false)] [.int .i32 0,.int .u32 0]:=rfl
@[push_cast] theorem td_201:td 201=.one (.val .nilIface):=rfl
@[push_cast] theorem td_202:td 202=.one (.val .nilIface):=rfl
@[push_cast] theorem td_215:td 215=.one (.val (.pointer none)):=rfl
@[push_cast] theorem td_227:td 227=.one (.val (.pointer none)):=rfl
@[push_cast] theorem td_229:td 229=.one (.val (.pointer none)):=rfl
@[push_cast] theorem td_231:td 231=.one (.val (.pointer none)):=rfl
@[push_cast] theorem td_233:td 233=.one (.val (.pointer none)):=rfl
@[push_cast] theorem td_237:td 237=.one (.val (.pointer none)):=rfl
@[push_cast] theorem td_241:td 241=.one (.val (.pointer none)):=rfl
@[push_cast] theorem td_246:td 246=.one (.int .u64 0):=rfl
@[push_cast] theorem td_247:td 247=.one (.val (.pointer none)):=rfl
@[push_cast] theorem td_248:td 248=.one (.int .i64 0):=rfl
@[push_cast] theorem td_251:td 251=.one (.val (.pointer none)):=rfl
@[push_cast] theorem td_255:td 255=.one (.val (.pointer none)):=rfl
@[push_cast] theorem td_258:td 258=.one (.val (.pointer none)):=rfl
@[push_cast] theorem td_260:td 260=.st 2 [(0,1,false),(1,1,false)] [.val (.pointer none),.str []]:=rfl
@[push_cast] theorem td_261:td 261=.st 2 [(0,1,false),(1,1,false)] [.val (.pointer none),.str []]:=rfl
@[push_cast] theorem td_262:td 262=.one (.val (.pointer none)):=rfl
@[push_cast] theorem td_264:td 264=.st 5 [(0,1,false),(1,1,false),(2,1,false),(3,1,false),(4,1,false)] [.str [],.int .i64 0,.str [],.val (.pointer none),.nilS]:=rfl
@[push_cast] theorem td_265:td 265=.st 5 [(0,1,false),(1,1,false),(2,1,false),(3,1,false),(4,1,false)] [.str [],.int .i64 0,.str [],.val (.pointer none),.nilS]:=rfl
@[push_cast] theorem td_271:td 271=.one (.int .u64 0):=rfl
@[push_cast] theorem td_282:td 282=.one (.val (.pointer none)):=rfl
@[push_cast] theorem td_284:td 284=.one (.val (.pointer none)):=rfl
@[push_cast] theorem td_292:td 292=.st 2 [(0,1,false),(1,1,false)] [.int .u8 0,.int .u8 0]:=rfl
@[push_cast] theorem td_293:td 293=.st 2 [(0,1,false),(1,1,false)] [.int .u8 0,.int .u8 0]:=rfl
@[push_cast] theorem td_296:td 296=.one (.val (.pointer none)):=rfl
@[push_cast] theorem td_297:td 297=.st 1 [(0,1,false)] [.str []]:=rfl
@[push_cast] theorem td_298:td 298=.st 1 [(0,1,false)] [.str []]:=rfl
@[push_cast] theorem td_308:td 308=.st 4 [(0,1,false),(1,1,false),(2,1,false),(3,1,false)] [.val (.pointer none),.val (.pointer none),.val (.pointer none),.str []]:=rfl
@[push_cast] theorem td_309:td 309=.st 4 [(0,1,false),(1,1,false),(2,1,false),(3,1,false)] [.val (.pointer none),.val (.pointer none),.val (.pointer none),.str []]:=rfl
@[push_cast] theorem td_314:td 314=.one (.int .u8 0):=rfl
@[push_cast] theorem td_315:td 315=.one (.int .u8 0):=rfl
@[push_cast] theorem td_317:td 317=.one (.int .i32 0):=rfl
@[push_cast] theorem td_318:td 318=.one (.int .i32 0):=rfl
@[push_cast] theorem td_319:td 319=.st 11 [(0,1,false),(1,1,false),(2,1,false),(3,1,false),(4,1,false),(5,1,false),(6,1,false),(7,1,false),(8,1,false),(9,1,false),(10,1,false)] [.int .u64 0,.int .u64 0,.int .u32 0,.int .u8 0,.int .u8 0,.int .u8 0,.int .u8 0,.val .nilFunc,.val (.pointer none),.int .i32 0,.int .i32 0]:=rfl
@[push_cast] theorem td_320:td 320=.st 11 [(0,1,false),(1,1,false),(2,1,false),(3,1,false),(4,1,false),(5,1,false),(6,1,false),(7,1,false),(8,1,false),(9,1,false),(10,1,false)] [.int .u64 0,.int .u64 0,.int .u32 0,.int .u8 0,.int .u8 0,.int .u8 0,.int .u8 0,.val .nilFunc,.val (.pointer none),.int .i32 0,.int .i32 0]:=rfl
@[push_cast] theorem td_322:td 322=.sl .u8:=rfl
@[push_cast] theorem td_323:td 323=.one (.val (.pointer none)):=rfl
@[push_cast] theorem td_324:td 324=.one (.val .nilIface):=rfl
@[push_cast] theorem td_325:td 325=.one (.val .nilIface):=rfl
@[push_cast] theorem td_326:td 326=.one (.val .nilIface):=rfl
@[push_cast] theorem td_327:td 327=.one (.val .nilIface):=rfl
theorem tdok_2 (E:Env):TDok P0 E 2 (.one (.int .i64 0)):=⟨.int .i64,.int .i64 0,by kernel_rfl,by kernel_rfl,rfl,rfl,rfl⟩
theorem tdok_3 (E:Env):TDok P0 E 3 (.one (.int .i64 0)):=⟨.int .i64,.int .i64 0,by kernel_rfl,by kernel_rfl,rfl,rfl,rfl⟩
theorem tdok_4 (E:Env):TDok P0 E 4 (.one (.bool false)):=⟨.bool,.bool false,by kernel_rfl,by kernel_rfl,rfl,rfl,rfl⟩
theorem tdok_5 (E:Env):TDok P0 E 5 (.one (.int .u8 0)):=⟨.int .u8,.int .u8 0,by kernel_rfl,by kernel_rfl,rfl,rfl,rfl⟩
theorem tdok_6 (E:Env):TDok P0 E 6 (.one (.int .u8 0)):=⟨.int .u8,.int .u8 0,by kernel_rfl,by kernel_rfl,rfl,rfl,rfl⟩
theorem tdok_7 (E:Env):TDok P0 E 7 (.st 4 [(0,1,false),(1,1,false),(2,1,false),(3,1,false)] [.int .i64 0,.int .i64 0,.bool false,.int .u8 0]):=⟨#[.int .i64 0,.int .i64 0,.bool false,.int .u8 0],by kernel_rfl,by kernel_rfl,rfl,rfl⟩
theorem tdok_8 (E:Env):TDok P0 E 8 (.st 4 [(0,1,false),(1,1,false),(2,1,false),(3,1,false)] [.int .i64 0,.int .i64 0,.bool false,.int .u8 0]):=⟨#[.int .i64 0,.int .i64 0,.bool false,.int .u8 0],by kernel_rfl,by kernel_rfl,rfl,rfl⟩
theorem tdok_9 (E:Env):TDok P0 E 9 (.one (.str [])):=⟨.string,.string ⟨#[]⟩,by kernel_rfl,by kernel_rfl,rfl,rfl,rfl⟩
theorem tdok_10 (E:Env):TDok P0 E 10 (.one (.str [])):=⟨.string,.string ⟨#[]⟩,by kernel_rfl,by kernel_rfl,rfl,rfl,rfl⟩
theorem tdok_11 (E:Env):TDok P0 E 11 (.one (.str [])):=⟨.string,.string ⟨#[]⟩,by kernel_rfl,by kernel_rfl,rfl,rfl,rfl⟩
theorem tdok_12 (E:Env):TDok P0 E 12 (.one (.int .u64 0)):=⟨.int .u64,.int .u64 0,by kernel_rfl,by kernel_rfl,rfl,rfl,rfl⟩
theorem tdok_13 (E:Env):TDok P0 E 13 (.st 2 [(0,1,false),(1,1,false)] [.str [],.int .u64 0]):=⟨#[.string ⟨#[]⟩,.int .u64 0],by kernel_rfl,by kernel_rfl,rfl,rfl⟩
theorem tdok_14 (E:Env):TDok P0 E 14 (.st 2 [(0,1,false),(1,1,false)] [.str [],.int .u64 0]):=⟨#[.string ⟨#[]⟩,.int .u64 0],by kernel_rfl,by kernel_rfl,rfl,rfl⟩
theorem tdok_15 (E:Env):TDok P0 E 15 (.one (.val (.pointer none))):=⟨.pointer 309,.pointer none,by kernel_rfl,by kernel_rfl,rfl,rfl,⟨_,rfl⟩⟩
theorem tdok_16 (E:Env):TDok P0 E 16 (.one (.val (.pointer none))):=⟨.pointer 312,.pointer none,by kernel_rfl,by kernel_rfl,rfl,rfl,⟨_,rfl⟩⟩
theorem tdok_17 (E:Env):TDok P0 E 17 (.one (.val (.pointer none))):=⟨.pointer 320,.pointer none,by kernel_rfl,by kernel_rfl,rfl,rfl,⟨_,rfl⟩⟩
theorem tdok_18 (E:Env):TDok P0 E 18 (.st 1 [(0,1,false)] [.val (.pointer none)]):=⟨#[.pointer none],by kernel_rfl,by kernel_rfl,rfl,rfl⟩
theorem tdok_19 (E:Env):TDok P0 E 19 (.st 1 [(0,1,false)] [.val (.pointer none)]):=⟨#[.pointer none],by kernel_rfl,by kernel_rfl,rfl,rfl⟩
theorem tdok_20 (E:Env):TDok P0 E 20 (.one (.val .nilIface)):=⟨.interface #[],.nilIface,by kernel_rfl,by kernel_rfl,rfl,rfl,⟨_,rfl⟩⟩
theorem tdok_21 (E:Env):TDok P0 E 21 (.one (.int .i32 0)):=⟨.int .i32,.int .i32 0,by kernel_rfl,by kernel_rfl,rfl,rfl,rfl⟩
theorem tdok_25 (E:Env):TDok P0 E 25 (.sl .node):=⟨56,by kernel_rfl,by kernel_rfl,by kernel_rfl,(fun h=>by cases h),.agg #[.int .i64 0,.int .i64 0,.string ⟨#[]⟩,.string ⟨#[]⟩,.slice none 0 0,.slice none 0 0],96,by kernel_rfl,by decide,by decide,rfl⟩
theorem tdok_28 (E:Env):TDok P0 E 28 (.sl .node):=⟨60,by kernel_rfl,by kernel_rfl,by kernel_rfl,(fun h=>by cases h),.agg #[.int .i64 0,.int .i64 0,.string ⟨#[]⟩,.string ⟨#[]⟩,.slice none 0 0,.slice none 0 0],96,by kernel_rfl,by decide,by decide,rfl⟩
theorem tdok_38 (E:Env):TDok P0 E 38 (.sl .rule):=⟨107,by kernel_rfl,by kernel_rfl,by kernel_rfl,(fun h=>by cases h),.agg #[.int .i64 0,.string ⟨#[]⟩,.slice none 0 0],48,by kernel_rfl,by decide,by decide,rfl⟩
theorem tdok_39 (E:Env):TDok P0 E 39 (.sl .str):=⟨9,by kernel_rfl,by kernel_rfl,by kernel_rfl,(fun h=>by cases h),.string ⟨#[]⟩,16,by kernel_rfl,by decide,by decide,rfl⟩
theorem tdok_40 (E:Env):TDok P0 E 40 (.st 9 [(0,1,false),(1,1,false),(2,1,false),(3,1,false),(4,1,false),(5,1,false),(6,1,false),(7,1,false),(8,1,false)] [.bool false,.bool false,.nilS,.nilS,.nilS,.nilS,.nilS,.bool false,.bool false]):=⟨#[.bool false,.bool false,.slice none 0 0,.slice none 0 0,.slice none 0 0,.slice none 0 0,.slice none 0 0,.bool false,.bool false],by kernel_rfl,by kernel_rfl,rfl,rfl⟩
theorem tdok_41 (E:Env):TDok P0 E 41 (.st 9 [(0,1,false),(1,1,false),(2,1,false),(3,1,false),(4,1,false),(5,1,false),(6,1,false),(7,1,false),(8,1,false)] [.bool false,.bool false,.nilS,.nilS,.nilS,.nilS,.nilS,.bool false,.bool false]):=⟨#[.bool false,.bool false,.slice none 0 0,.slice none 0 0,.slice none 0 0,.slice none 0 0,.slice none 0 0,.bool false,.bool false],by kernel_rfl,by kernel_rfl,rfl,rfl⟩
theorem tdok_45 (E:Env):TDok P0 E 45 (.sl .rule):=⟨110,by kernel_rfl,by kernel_rfl,by kernel_rfl,(fun h=>by cases h),.agg #[.int .i64 0,.string ⟨#[]⟩,.slice none 0 0],48,by kernel_rfl,by decide,by decide,rfl⟩
theorem tdok_46 (E:Env):TDok P0 E 46 (.st 9 [(0,1,false),(1,1,false),(2,1,false),(3,1,false),(4,1,false),(5,1,false),(6,1,false),(7,1,false),(8,1,false)] [.bool false,.bool false,.nilS,.nilS,.nilS,.nilS,.nilS,.bool false,.bool false]):=⟨#[.bool false,.bool false,.slice none 0 0,.slice none 0 0,.slice none 0 0,.slice none 0 0,.slice none 0 0,.bool false,.bool false],by kernel_rfl,by kernel_rfl,rfl,rfl⟩
theorem tdok_47 (E:Env):TDok P0 E 47 (.st 9 [(0,1,false),(1,1,false),(2,1,false),(3,1,false),(4,1,false),(5,1,false),(6,1,false),(7,1,false),(8,1,false)] [.bool false,.bool false,.nilS,.nilS,.nilS,.nilS,.nilS,.bool false,.bool false]):=⟨#[.bool false,.bool false,.slice none 0 0,.slice none 0 0,.slice none 0 0,.slice none 0 0,.slice none 0 0,.bool false,.bool false],by kernel_rfl,by kernel_rfl,rfl,rfl⟩
theorem tdok_54 (E:Env):TDok P0 E 54 (.sl .attr):=⟨146,by kernel_rfl,by kernel_rfl,by kernel_rfl,(fun h=>by cases h),.agg #[.string ⟨#[]⟩,.string ⟨#[]⟩],32,by kernel_rfl,by decide,by decide,rfl⟩
theorem tdok_55 (E:Env):TDok P0 E 55 (.st 6 [(0,1,false),(1,1,false),(2,1,false),(3,1,false),(4,1,false),(5,1,false)] [.int .i64 0,.int .i64 0,.str [],.str [],.nilS,.nilS]):=⟨#[.int .i64 0,.int .i64 0,.string ⟨#[]⟩,.string ⟨#[]⟩,.slice none 0 0,.slice none 0 0],by kernel_rfl,by kernel_rfl,rfl,rfl⟩
theorem tdok_56 (E:Env):TDok P0 E 56 (.st 6 [(0,1,false),(1,1,false),(2,1,false),(3,1,false),(4,1,false),(5,1,false)] [.int .i64 0,.int .i64 0,.str [],.str [],.nilS,.nilS]):=⟨#[.int .i64 0,.int .i64 0,.string ⟨#[]⟩,.string ⟨#[]⟩,.slice none 0 0,.slice none 0 0],by kernel_rfl,by kernel_rfl,rfl,rfl⟩
theorem tdok_58 (E:Env):TDok P0 E 58 (.sl .attr):=⟨100,by kernel_rfl,by kernel_rfl,by kernel_rfl,(fun h=>by cases h),.agg #[.string ⟨#[]⟩,.string ⟨#[]⟩],32,by kernel_rfl,by decide,by decide,rfl⟩
theorem tdok_59 (E:Env):TDok P0 E 59 (.st 6 [(0,1,false),(1,1,false),(2,1,false),(3,1,false),(4,1,false),(5,1,false)] [.int .i64 0,.int .i64 0,.str [],.str [],.nilS,.nilS]):=⟨#[.int .i64 0,.int .i64 0,.string ⟨#[]⟩,.string ⟨#[]⟩,.slice none 0 0,.slice none 0 0],by kernel_rfl,by kernel_rfl,rfl,rfl⟩
theorem tdok_60 (E:Env):TDok P0 E 60 (.st 6 [(0,1,false),(1,1,false),(2,1,false),(3,1,false),(4,1,false),(5,1,false)] [.int .i64 0,.int .i64 0,.str [],.str [],.nilS,.nilS]):=⟨#[.int .i64 0,.int .i64 0,.string ⟨#[]⟩,.string ⟨#[]⟩,.slice none 0 0,.slice none 0 0],by kernel_rfl,by kernel_rfl,rfl,rfl⟩
theorem tdok_77 (E:Env):TDok P0 E 77 (.one (.val (.pointer none))):=⟨.pointer 80,.pointer none,by kernel_rfl,by kernel_rfl,rfl,rfl,⟨_,rfl⟩⟩
theorem tdok_78 (E:Env):TDok P0 E 78 (.sl .opn):=⟨132,by kernel_rfl,by kernel_rfl,by kernel_rfl,(fun h=>by cases h),.agg #[.string ⟨#[]⟩,.int .i64 0],24,by kernel_rfl,by decide,by decide,rfl⟩
theorem tdok_79 (E:Env):TDok P0 E 79 (.st 4 [(0,1,false),(1,1,false),(2,1,false),(3,1,false)] [.nilS,.nilS,.int .i64 0,.int .i64 0]):=⟨#[.slice none 0 0,.slice none 0 0,.int .i64 0,.int .i64 0],by kernel_rfl,by kernel_rfl,rfl,rfl⟩
theorem tdok_80 (E:Env):TDok P0 E 80 (.st 4 [(0,1,false),(1,1,false),(2,1,false),(3,1,false)] [.nilS,.nilS,.int .i64 0,.int .i64 0]):=⟨#[.slice none 0 0,.slice none 0 0,.int .i64 0,.int .i64 0],by kernel_rfl,by kernel_rfl,rfl,rfl⟩
theorem tdok_82 (E:Env):TDok P0 E 82 (.st 7 [(0,1,false),(1,1,false),(2,1,false),(3,1,false),(4,1,false),(5,1,false),(6,1,false)] [.int .i64 0,.int .i64 0,.int .i64 0,.str [],.str [],.nilS,.bool false]):=⟨#[.int .i64 0,.int .i64 0,.int .i64 0,.string ⟨#[]⟩,.string ⟨#[]⟩,.slice none 0 0,.bool false],by kernel_rfl,by kernel_rfl,rfl,rfl⟩
theorem tdok_83 (E:Env):TDok P0 E 83 (.st 7 [(0,1,false),(1,1,false),(2,1,false),(3,1,false),(4,1,false),(5,1,false),(6,1,false)] [.int .i64 0,.int .i64 0,.int .i64 0,.str [],.str [],.nilS,.bool false]):=⟨#[.int .i64 0,.int .i64 0,.int .i64 0,.string ⟨#[]⟩,.string ⟨#[]⟩,.slice none 0 0,.bool false],by kernel_rfl,by kernel_rfl,rfl,rfl⟩
theorem tdok_91 (E:Env):TDok P0 E 91 (.one (.val (.pointer none))):=⟨.pointer 94,.pointer none,by kernel_rfl,by kernel_rfl,rfl,rfl,⟨_,rfl⟩⟩
theorem tdok_92 (E:Env):TDok P0 E 92 (.sl .nodes):=⟨28,by kernel_rfl,by kernel_rfl,by kernel_rfl,(fun h=>by cases h),.slice none 0 0,24,by kernel_rfl,by decide,by decide,rfl⟩
theorem tdok_93 (E:Env):TDok P0 E 93 (.st 3 [(0,1,false),(1,1,false),(2,1,false)] [.nilS,.nilS,.int .i64 0]):=⟨#[.slice none 0 0,.slice none 0 0,.int .i64 0],by kernel_rfl,by kernel_rfl,rfl,rfl⟩
theorem tdok_94 (E:Env):TDok P0 E 94 (.st 3 [(0,1,false),(1,1,false),(2,1,false)] [.nilS,.nilS,.int .i64 0]):=⟨#[.slice none 0 0,.slice none 0 0,.int .i64 0],by kernel_rfl,by kernel_rfl,rfl,rfl⟩
theorem tdok_98 (E:Env):TDok P0 E 98 (.sl .u8):=⟨5,by kernel_rfl,by kernel_rfl,by kernel_rfl,(fun _=>by kernel_rfl),.int .u8 0,1,by kernel_rfl,by decide,by decide,rfl⟩
theorem tdok_99 (E:Env):TDok P0 E 99 (.st 2 [(0,1,false),(1,1,false)] [.str [],.str []]):=⟨#[.string ⟨#[]⟩,.string ⟨#[]⟩],by kernel_rfl,by kernel_rfl,rfl,rfl⟩
theorem tdok_100 (E:Env):TDok P0 E 100 (.st 2 [(0,1,false),(1,1,false)] [.str [],.str []]):=⟨#[.string ⟨#[]⟩,.string ⟨#[]⟩],by kernel_rfl,by kernel_rfl,rfl,rfl⟩
theorem tdok_103 (E:Env):TDok P0 E 103 (.sl .int):=⟨3,by kernel_rfl,by kernel_rfl,by kernel_rfl,(fun h=>by cases h),.int .i64 0,8,by kernel_rfl,by decide,by decide,rfl⟩
theorem tdok_106 (E:Env):TDok P0 E 106 (.st 3 [(0,1,false),(1,1,false),(2,1,false)] [.int .i64 0,.str [],.nilS]):=⟨#[.int .i64 0,.string ⟨#[]⟩,.slice none 0 0],by kernel_rfl,by kernel_rfl,rfl,rfl⟩
theorem tdok_107 (E:Env):TDok P0 E 107 (.st 3 [(0,1,false),(1,1,false),(2,1,false)] [.int .i64 0,.str [],.nilS]):=⟨#[.int .i64 0,.string ⟨#[]⟩,.slice none 0 0],by kernel_rfl,by kernel_rfl,rfl,rfl⟩
theorem tdok_110 (E:Env):TDok P0 E 110 (.st 3 [(0,1,false),(1,1,false),(2,1,false)] [.int .i64 0,.str [],.nilS]):=⟨#[.int .i64 0,.string ⟨#[]⟩,.slice none 0 0],by kernel_rfl,by kernel_rfl,rfl,rfl⟩
theorem tdok_119 (E:Env):TDok P0 E 119 (.one (.val (.pointer none))):=⟨.pointer 121,.pointer none,by kernel_rfl,by kernel_rfl,rfl,rfl,⟨_,rfl⟩⟩
theorem tdok_120 (E:Env):TDok P0 E 120 (.st 2 [(0,1,false),(1,1,false)] [.val (.pointer none),.nilS]):=⟨#[.pointer none,.slice none 0 0],by kernel_rfl,by kernel_rfl,rfl,rfl⟩
theorem tdok_121 (E:Env):TDok P0 E 121 (.st 2 [(0,1,false),(1,1,false)] [.val (.pointer none),.nilS]):=⟨#[.pointer none,.slice none 0 0],by kernel_rfl,by kernel_rfl,rfl,rfl⟩
theorem tdok_122 (E:Env):TDok P0 E 122 (.one (.val .nilIface)):=⟨.interface #[("Error",81)],.nilIface,by kernel_rfl,by kernel_rfl,rfl,rfl,⟨_,rfl⟩⟩
theorem tdok_123 (E:Env):TDok P0 E 123 (.one (.val .nilIface)):=⟨.interface #[("Error",81)],.nilIface,by kernel_rfl,by kernel_rfl,rfl,rfl,⟨_,rfl⟩⟩
theorem tdok_131 (E:Env):TDok P0 E 131 (.st 2 [(0,1,false),(1,1,false)] [.str [],.int .i64 0]):=⟨#[.string ⟨#[]⟩,.int .i64 0],by kernel_rfl,by kernel_rfl,rfl,rfl⟩
theorem tdok_132 (E:Env):TDok P0 E 132 (.st 2 [(0,1,false),(1,1,false)] [.str [],.int .i64 0]):=⟨#[.string ⟨#[]⟩,.int .i64 0],by kernel_rfl,by kernel_rfl,rfl,rfl⟩
theorem tdok_146 (E:Env):TDok P0 E 146 (.st 2 [(0,1,false),(1,1,false)] [.str [],.str []]):=⟨#[.string ⟨#[]⟩,.string ⟨#[]⟩],by kernel_rfl,by kernel_rfl,rfl,rfl⟩
theorem tdok_151 (E:Env):TDok P0 E 151 (.one (.val (.pointer none))):=⟨.pointer 3,.pointer none,by kernel_rfl,by kernel_rfl,rfl,rfl,⟨_,rfl⟩⟩
theorem tdok_160 (E:Env):TDok P0 E 160 (.one (.val (.pointer none))):=⟨.pointer 204,.pointer none,by kernel_rfl,by kernel_rfl,rfl,rfl,⟨_,rfl⟩⟩
theorem tdok_162 (E:Env):TDok P0 E 162 (.one (.val (.pointer none))):=⟨.pointer 5,.pointer none,by kernel_rfl,by kernel_rfl,rfl,rfl,⟨_,rfl⟩⟩
theorem tdok_192 (E:Env):TDok P0 E 192 (.one (.int .u32 0)):=⟨.int .u32,.int .u32 0,by kernel_rfl,by kernel_rfl,rfl,rfl,rfl⟩
theorem tdok_195 (E:Env):TDok P0 E 195 (.st 2 [(0,1,false),(1,1,false)] [.int .i32 0,.int .u32 0]):=⟨#[.int .i32 0,.int .u32 0],by kernel_rfl,by kernel_rfl,rfl,rfl⟩
theorem tdok_196 (E:Env):TDok P0 E 196 (.st 2 [(0,1,false),(1,1,false)] [.int .i32 0,.int .u32 0]):=⟨#[.int .i32 0,.int .u32 0],by kernel_rfl,by kernel_rfl,rfl,rfl⟩
theorem tdok_201 (E:Env):TDok P0 E 201 (.one (.val .nilIface)):=⟨.interface #[("Replace",113),("WriteString",321)],.nilIface,by kernel_rfl,by kernel_rfl,rfl,rfl,⟨_,rfl⟩⟩
theorem tdok_202 (E:Env):TDok P0 E 202 (.one (.val .nilIface)):=⟨.interface #[("Replace",113),("WriteString",321)],.nilIface,by kernel_rfl,by kernel_rfl,rfl,rfl,⟨_,rfl⟩⟩
theorem tdok_215 (E:Env):TDok P0 E 215 (.one (.val (.pointer none))):=⟨.pointer 200,.pointer none,by kernel_rfl,by kernel_rfl,rfl,rfl,⟨_,rfl⟩⟩
theorem tdok_227 (E:Env):TDok P0 E 227 (.one (.val (.pointer none))):=⟨.pointer 194,.pointer none,by kernel_rfl,by kernel_rfl,rfl,rfl,⟨_,rfl⟩⟩
theorem tdok_229 (E:Env):TDok P0 E 229 (.one (.val (.pointer none))):=⟨.pointer 192,.pointer none,by kernel_rfl,by kernel_rfl,rfl,rfl,⟨_,rfl⟩⟩
theorem tdok_231 (E:Env):TDok P0 E 231 (.one (.val (.pointer none))):=⟨.pointer 261,.pointer none,by kernel_rfl,by kernel_rfl,rfl,rfl,⟨_,rfl⟩⟩
theorem tdok_233 (E:Env):TDok P0 E 233 (.one (.val (.pointer none))):=⟨.pointer 267,.pointer none,by kernel_rfl,by kernel_rfl,rfl,rfl,⟨_,rfl⟩⟩
theorem tdok_237 (E:Env):TDok P0 E 237 (.one (.val (.pointer none))):=⟨.pointer 236,.pointer none,by kernel_rfl,by kernel_rfl,rfl,rfl,⟨_,rfl⟩⟩
theorem tdok_241 (E:Env):TDok P0 E 241 (.one (.val (.pointer none))):=⟨.pointer 240,.pointer none,by kernel_rfl,by kernel_rfl,rfl,rfl,⟨_,rfl⟩⟩
theorem tdok_246 (E:Env):TDok P0 E 246 (.one (.int .u64 0)):=⟨.int .u64,.int .u64 0,by kernel_rfl,by kernel_rfl,rfl,rfl,rfl⟩
theorem tdok_247 (E:Env):TDok P0 E 247 (.one (.val (.pointer none))):=⟨.pointer 221,.pointer none,by kernel_rfl,by kernel_rfl,rfl,rfl,⟨_,rfl⟩⟩
theorem tdok_248 (E:Env):TDok P0 E 248 (.one (.int .i64 0)):=⟨.int .i64,.int .i64 0,by kernel_rfl,by kernel_rfl,rfl,rfl,rfl⟩
theorem tdok_251 (E:Env):TDok P0 E 251 (.one (.val (.pointer none))):=⟨.pointer 275,.pointer none,by kernel_rfl,by kernel_rfl,rfl,rfl,⟨_,rfl⟩⟩
theorem tdok_255 (E:Env):TDok P0 E 255 (.one (.val (.pointer none))):=⟨.pointer 198,.pointer none,by kernel_rfl,by kernel_rfl,rfl,rfl,⟨_,rfl⟩⟩
theorem tdok_258 (E:Env):TDok P0 E 258 (.one (.val (.pointer none))):=⟨.pointer 290,.pointer none,by kernel_rfl,by kernel_rfl,rfl,rfl,⟨_,rfl⟩⟩
theorem tdok_260 (E:Env):TDok P0 E 260 (.st 2 [(0,1,false),(1,1,false)] [.val (.pointer none),.str []]):=⟨#[.pointer none,.string ⟨#[]⟩],by kernel_rfl,by kernel_rfl,rfl,rfl⟩
theorem tdok_261 (E:Env):TDok P0 E 261 (.st 2 [(0,1,false),(1,1,false)] [.val (.pointer none),.str []]):=⟨#[.pointer none,.string ⟨#[]⟩],by kernel_rfl,by kernel_rfl,rfl,rfl⟩
theorem tdok_262 (E:Env):TDok P0 E 262 (.one (.val (.pointer none))):=⟨.pointer 265,.pointer none,by kernel_rfl,by kernel_rfl,rfl,rfl,⟨_,rfl⟩⟩
theorem tdok_264 (E:Env):TDok P0 E 264 (.st 5 [(0,1,false),(1,1,false),(2,1,false),(3,1,false),(4,1,false)] [.str [],.int .i64 0,.str [],.val (.pointer none),.nilS]):=⟨#[.string ⟨#[]⟩,.int .i64 0,.string ⟨#[]⟩,.pointer none,.slice none 0 0],by kernel_rfl,by kernel_rfl,rfl,rfl⟩
theorem tdok_265 (E:Env):TDok P0 E 265 (.st 5 [(0,1,false),(1,1,false),(2,1,false),(3,1,false),(4,1,false)] [.str [],.int .i64 0,.str [],.val (.pointer none),.nilS]):=⟨#[.string ⟨#[]⟩,.int .i64 0,.string ⟨#[]⟩,.pointer none,.slice none 0 0],by kernel_rfl,by kernel_rfl,rfl,rfl⟩
theorem tdok_271 (E:Env):TDok P0 E 271 (.one (.int .u64 0)):=⟨.int .u64,.int .u64 0,by kernel_rfl,by kernel_rfl,rfl,rfl,rfl⟩
theorem tdok_282 (E:Env):TDok P0 E 282 (.one (.val (.pointer none))):=⟨.pointer 196,.pointer none,by kernel_rfl,by kernel_rfl,rfl,rfl,⟨_,rfl⟩⟩
theorem tdok_284 (E:Env):TDok P0 E 284 (.one (.val (.pointer none))):=⟨.pointer 21,.pointer none,by kernel_rfl,by kernel_rfl,rfl,rfl,⟨_,rfl⟩⟩
theorem tdok_292 (E:Env):TDok P0 E 292 (.st 2 [(0,1,false),(1,1,false)] [.int .u8 0,.int .u8 0]):=⟨#[.int .u8 0,.int .u8 0],by kernel_rfl,by kernel_rfl,rfl,rfl⟩
theorem tdok_293 (E:Env):TDok P0 E 293 (.st 2 [(0,1,false),(1,1,false)] [.int .u8 0,.int .u8 0]):=⟨#[.int .u8 0,.int .u8 0],by kernel_rfl,by kernel_rfl,rfl,rfl⟩
theorem tdok_296 (E:Env):TDok P0 E 296 (.one (.val (.pointer none))):=⟨.pointer 298,.pointer none,by kernel_rfl,by kernel_rfl,rfl,rfl,⟨_,rfl⟩⟩
theorem tdok_297 (E:Env):TDok P0 E 297 (.st 1 [(0,1,false)] [.str []]):=⟨#[.string ⟨#[]⟩],by kernel_rfl,by kernel_rfl,rfl,rfl⟩
theorem tdok_298 (E:Env):TDok P0 E 298 (.st 1 [(0,1,false)] [.str []]):=⟨#[.string ⟨#[]⟩],by kernel_rfl,by kernel_rfl,rfl,rfl⟩
theorem tdok_308 (E:Env):TDok P0 E 308 (.st 4 [(0,1,false),(1,1,false),(2,1,false),(3,1,false)] [.val (.pointer none),.val (.pointer none),.val (.pointer none),.str []]):=⟨#[.pointer none,.pointer none,.pointer none,.string ⟨#[]⟩],by kernel_rfl,by kernel_rfl,rfl,rfl⟩
theorem tdok_309 (E:Env):TDok P0 E 309 (.st 4 [(0,1,false),(1,1,false),(2,1,false),(3,1,false)] [.val (.pointer none),.val (.pointer none),.val (.pointer none),.str []]):=⟨#[.pointer none,.pointer none,.pointer none,.string ⟨#[]⟩],by kernel_rfl,by kernel_rfl,rfl,rfl⟩
theorem tdok_314 (E:Env):TDok P0 E 314 (.one (.int .u8 0)):=⟨.int .u8,.int .u8 0,by kernel_rfl,by kernel_rfl,rfl,rfl,rfl⟩
theorem tdok_315 (E:Env):TDok P0 E 315 (.one (.int .u8 0)):=⟨.int .u8,.int .u8 0,by kernel_rfl,by kernel_rfl,rfl,rfl,rfl⟩
theorem tdok_317 (E:Env):TDok P0 E 317 (.one (.int .i32 0)):=⟨.int .i32,.int .i32 0,by kernel_rfl,by kernel_rfl,rfl,rfl,rfl⟩
theorem tdok_318 (E:Env):TDok P0 E 318 (.one (.int .i32 0)):=⟨.int .i32,.int .i32 0,by kernel_rfl,by kernel_rfl,rfl,rfl,rfl⟩
theorem tdok_319 (E:Env):TDok P0 E 319 (.st 11 [(0,1,false),(1,1,false),(2,1,false),(3,1,false),(4,1,false),(5,1,false),(6,1,false),(7,1,false),(8,1,false),(9,1,false),(10,1,false)] [.int .u64 0,.int .u64 0,.int .u32 0,.int .u8 0,.int .u8 0,.int .u8 0,.int .u8 0,.val .nilFunc,.val (.pointer none),.int .i32 0,.int .i32 0]):=⟨#[.int .u64 0,.int .u64 0,.int .u32 0,.int .u8 0,.int .u8 0,.int .u8 0,.int .u8 0,.nilFunc,.pointer none,.int .i32 0,.int .i32 0],by kernel_rfl,by kernel_rfl,rfl,rfl⟩
theorem tdok_320 (E:Env):TDok P0 E 320 (.st 11 [(0,1,false),(1,1,false),(2,1,false),(3,1,false),(4,1,false),(5,1,false),(6,1,false),(7,1,false),(8,1,false),(9,1,false),(10,1,false)] [.int .u64 0,.int .u64 0,.int .u32 0,.int .u8 0,.int .u8 0,.int .u8 0,.int .u8 0,.val .nilFunc,.val (.pointer none),.int .i32 0,.int .i32 0]):=⟨#[.int .u64 0,.int .u64 0,.int .u32 0,.int .u8 0,.int .u8 0,.int .u8 0,.int .u8 0,.nilFunc,.pointer none,.int .i32 0,.int .i32 0],by kernel_rfl,by kernel_rfl,rfl,rfl⟩
theorem tdok_322 (E:Env):TDok P0 E 322 (.sl .u8):=⟨5,by kernel_rfl,by kernel_rfl,by kernel_rfl,(fun _=>by kernel_rfl),.int .u8 0,1,by kernel_rfl,by decide,by decide,rfl⟩
theorem tdok_323 (E:Env):TDok P0 E 323 (.one (.val (.pointer none))):=⟨.pointer 322,.pointer none,by kernel_rfl,by kernel_rfl,rfl,rfl,⟨_,rfl⟩⟩
theorem tdok_324 (E:Env):TDok P0 E 324 (.one (.val .nilIface)):=⟨.interface #[("Write",334)],.nilIface,by kernel_rfl,by kernel_rfl,rfl,rfl,⟨_,rfl⟩⟩
theorem tdok_325 (E:Env):TDok P0 E 325 (.one (.val .nilIface)):=⟨.interface #[("Write",334)],.nilIface,by kernel_rfl,by kernel_rfl,rfl,rfl,⟨_,rfl⟩⟩
theorem tdok_326 (E:Env):TDok P0 E 326 (.one (.val .nilIface)):=⟨.interface #[("WriteString",125)],.nilIface,by kernel_rfl,by kernel_rfl,rfl,rfl,⟨_,rfl⟩⟩
theorem tdok_327 (E:Env):TDok P0 E 327 (.one (.val .nilIface)):=⟨.interface #[("WriteString",125)],.nilIface,by kernel_rfl,by kernel_rfl,rfl,rfl,⟨_,rfl⟩⟩
theorem tdok (E:Env) (t:TypeId):TDok P0 E t (td t):=by
 unfold td
 split
 ·exact tdok_2 E
 ·exact tdok_3 E
 ·exact tdok_4 E
 ·exact tdok_5 E
 ·exact tdok_6 E
 ·exact tdok_7 E
 ·exact tdok_8 E
 ·exact tdok_9 E
 ·exact tdok_10 E
 ·exact tdok_11 E
 ·exact tdok_12 E
 ·exact tdok_13 E
 ·exact tdok_14 E
 ·exact tdok_15 E
 ·exact tdok_16 E
 ·exact tdok_17 E
 ·exact tdok_18 E
 ·exact tdok_19 E
 ·exact tdok_20 E
 ·exact tdok_21 E
 ·exact tdok_25 E
 ·exact tdok_28 E
 ·exact tdok_38 E
 ·exact tdok_39 E
 ·exact tdok_40 E
 ·exact tdok_41 E
 ·exact tdok_45 E
 ·exact tdok_46 E
 ·exact tdok_47 E
 ·exact tdok_54 E
 ·exact tdok_55 E
 ·exact tdok_56 E
 ·exact tdok_58 E
 ·exact tdok_59 E
 ·exact tdok_60 E
 ·exact tdok_77 E
 ·exact tdok_78 E
 ·exact tdok_79 E
 ·exact tdok_80 E
 ·exact tdok_82 E
 ·exact tdok_83 E
 ·exact tdok_91 E
 ·exact tdok_92 E
 ·exact tdok_93 E
 ·exact tdok_94 E
 ·exact tdok_98 E
 ·exact tdok_99 E
 ·exact tdok_100 E
 ·exact tdok_103 E
 ·exact tdok_106 E
 ·exact tdok_107 E
 ·exact tdok_110 E
 ·exact tdok_119 E
 ·exact tdok_120 E
 ·exact tdok_121 E
 ·exact tdok_122 E
 ·exact tdok_123 E
 ·exact tdok_131 E
 ·exact tdok_132 E
 ·exact tdok_146 E
 ·exact tdok_151 E
 ·exact tdok_160 E
 ·exact tdok_162 E
 ·exact tdok_192 E
 ·exact tdok_195 E
 ·exact tdok_196 E
 ·exact tdok_201 E
 ·exact tdok_202 E
 ·exact tdok_215 E
 ·exact tdok_227 E
 ·exact tdok_229 E
 ·exact tdok_231 E
 ·exact tdok_233 E
 ·exact tdok_237 E
 ·exact tdok_241 E
 ·exact tdok_246 E
 ·exact tdok_247 E
 ·exact tdok_248 E
 ·exact tdok_251 E
 ·exact tdok_255 E
 ·exact tdok_258 E
 ·exact tdok_260 E
 ·exact tdok_261 E
 ·exact tdok_262 E
 ·exact tdok_264 E
 ·exact tdok_265 E
 ·exact tdok_271 E
 ·exact tdok_282 E
 ·exact tdok_284 E
 ·exact tdok_292 E
 ·exact tdok_293 E
 ·exact tdok_296 E
 ·exact tdok_297 E
 ·exact tdok_298 E
 ·exact tdok_308 E
 ·exact tdok_309 E
 ·exact tdok_314 E
 ·exact tdok_315 E
 ·exact tdok_317 E
 ·exact tdok_318 E
 ·exact tdok_319 E
 ·exact tdok_320 E
 ·exact tdok_322 E
 ·exact tdok_323 E
 ·exact tdok_324 E
 ·exact tdok_325 E
 ·exact tdok_326 E
 ·exact tdok_327 E
 ·trivial
def eqt:TypeId→Bool
 | 99=>true
 | 100=>true
 | 146=>true
 | 131=>true
 | 132=>true
 | _=>false
@[push_cast] theorem eqt_99:eqt 99=true:=rfl
@[push_cast] theorem eqt_100:eqt 100=true:=rfl
@[push_cast] theorem eqt_146:eqt 146=true:=rfl
@[push_cast] theorem eqt_131:eqt 131=true:=rfl
@[push_cast] theorem eqt_132:eqt 132=true:=rfl
theorem eqt_ok (t:TypeId) (h:eqt t=true):EqS P0 (td t) t:=by
 unfold eqt at h
 split at h
 ·exact ⟨fun _=>eqS_ofB (by kernel_rfl),fun h=>(by cases h)⟩
 ·exact ⟨fun _=>eqS_ofB (by kernel_rfl),fun h=>(by cases h)⟩
 ·exact ⟨fun _=>eqS_ofB (by kernel_rfl),fun h=>(by cases h)⟩
 ·exact ⟨fun h=>(by cases h),fun _=>eqI_ofB (by kernel_rfl)⟩
 ·exact ⟨fun h=>(by cases h),fun _=>eqI_ofB (by kernel_rfl)⟩
 ·cases h
def ety0:K→TypeId
 | .u8=>5
 | _=>0
theorem tg0 (t:TypeId) (k:K) (h:td t=.sl k) (e:TypeId) (hu:P0.underlying t=some (.slice e)):ety0 k=0∨e=ety0 k:=by
 cases k<;>first | exact .inl rfl | skip
 unfold td at h
 split at h<;>first | cases h;done | skip
 ·rw [show P0.underlying 98=some (.slice 5) from by kernel_rfl] at hu;cases hu;exact .inr rfl
 ·rw [show P0.underlying 322=some (.slice 5) from by kernel_rfl] at hu;cases hu;exact .inr rfl
def mk (l:List (FuncId × Spec)) (d:List (Nat × List Nat × List Alt)) (g:List (Nat × List Gho):=[]) (il:List (FuncId × Inl):=[]) (fd:Option FuncId:=none):Env:=⟨td,ety0,calOf l,drOf d,eqt,ghOf g,inlF il,fndF fd⟩
abbrev MkE (e:Env) (l:List (FuncId × Spec)) (d:List (Nat × List Nat × List Alt)) (g:List (Nat × List Gho)) (il:List (FuncId × Inl)) (fd:Option FuncId):Prop:=e.inl=inlF il∧e.fnd=fndF fd∧e.gh=ghOf g∧e.dr=drOf d∧e.td=td∧e.eqt=eqt∧e.cal=calOf l
theorem mixed:P0.follows .mixedOrders=true:=by kernel_rfl
theorem mkOk {l:List (FuncId × Spec)} {d:List (Nat × List Nat × List Alt)} {g:List (Nat × List Gho)} {il:List (FuncId × Inl)} {fd:Option FuncId} (h:Rows P0 ety0 l) (hi:Inls P0 il:=by exact .nil) (hf:Fnds P0 fd:=by exact .nil):EnvOk P0 (mk l d g il fd):=EnvOk.of mixed tdok h _ _ eqt_ok _ _ hi.get _ hf.get tg0
end Go.Ab
