import Derived.Test.YtnnaepmjmpnimaaGreatDoorEng4
import Derived.Lib.LaidTab
import Derived.Lib.ItoaNum
import Derived.Test.YtnnaepmjmpnimaaGreatDoorProg
set_option linter.all false
set_option linter.unusedSimpArgs false
set_option linter.unusedVariables false
set_option linter.unusedSectionVars false
namespace Go.Ab
open Go
noncomputable abbrev P0 : Program := Go.Proofs.Tryz.prog
def Kn0 (w0 : World) : Prop := w0.ShapedOpen P0 ∧ Lib.TabIs P0 w0 "internal/strconv.uint64pow10" .u64 Lib.pow10Tab ∧ (∃ tp p, w0.var? P0 "strconv.ErrSyntax" = some #[.iface tp p]) ∧ ∃ tp p, w0.var? P0 "strconv.ErrRange" = some #[.iface tp p]
noncomputable instance gi0 : GI := ⟨fun w R => ∃ w0 : World, Kn0 w0 ∧ ∀ b, b < w0.heap.size → R b ∧ w.heap[b]? = w0.heap[b]?, fun {w w' R R'} h hR hm => by
  obtain ⟨w0, h1, h2⟩ := h
  refine ⟨w0, h1, fun b hb => ⟨hR b (h2 b hb).1, ?_⟩⟩
  have e := (h2 b hb).2
  have hlt : b < w.heap.size := by
    rw [Array.getElem?_eq_getElem hb] at e
    exact (Array.getElem?_eq_some_iff.1 e).1
  rw [hm b (h2 b hb).1 hlt, e]⟩
theorem gi_start {W : World} (h : Kn0 W) : GI.p W fun b => b < W.heap.size := ⟨W, h, fun _ hb => ⟨hb, rfl⟩⟩
theorem gi_cell {w0 w : World} {R : Nat → Prop} (h : ∀ b, b < w0.heap.size → R b ∧ w.heap[b]? = w0.heap[b]?) {a : Addr} {v : Value} (hc : w0.cell? a = some v) : w.cell? a = some v := by
  rw [World.cell?_of_block (h _ (World.block_lt_of_cell? _ _ hc)).2]; exact hc
theorem gi_var {w0 w : World} {R : Nat → Prop} (h : ∀ b, b < w0.heap.size → R b ∧ w.heap[b]? = w0.heap[b]?) {n : String} {cs : Array Value} (hc : w0.var? P0 n = some cs) : w.var? P0 n = some cs := by
  unfold World.var? at hc ⊢
  cases hg : P0.globalNamed n with
  | none => rw [hg] at hc; cases hc
  | some g =>
    rw [hg] at hc
    simp only [Option.bind_some] at hc ⊢
    have hlt : g < w0.heap.size := by
      rcases Nat.lt_or_ge g w0.heap.size with h' | h'
      · exact h'
      · simp [Array.getElem?_eq_none h'] at hc
    rw [(h g hlt).2]; exact hc
theorem gi_tab {w : World} {R : Nat → Prop} (h : GI.p w R) : Lib.TabIs P0 w "internal/strconv.uint64pow10" .u64 Lib.pow10Tab := by
  obtain ⟨w0, ⟨_, h1, _⟩, h2⟩ := h
  exact gi_var h2 h1
theorem gi_syn {w : World} {R : Nat → Prop} (h : GI.p w R) : ∃ tp p, w.var? P0 "strconv.ErrSyntax" = some #[.iface tp p] := by
  obtain ⟨w0, ⟨_, _, ⟨tp, p, h1⟩, _⟩, h2⟩ := h
  exact ⟨tp, p, gi_var h2 h1⟩
theorem gi_ran {w : World} {R : Nat → Prop} (h : GI.p w R) : ∃ tp p, w.var? P0 "strconv.ErrRange" = some #[.iface tp p] := by
  obtain ⟨w0, ⟨_, _, _, tp, p, h1⟩, h2⟩ := h
  exact ⟨tp, p, gi_var h2 h1⟩
def td : TypeId → TD
  | 2 => .one (.int .i64 0)
  | 3 => .one (.int .i64 0)
  | 4 => .one (.bool false)
  | 5 => .one (.int .u8 0)
  | 6 => .one (.int .u8 0)
  | 7 => .st 4 [(0, 1, false), (1, 1, false), (2, 1, false), (3, 1, false)] [.int .i64 0, .int .i64 0, .bool false, .int .u8 0]
  | 8 => .st 4 [(0, 1, false), (1, 1, false), (2, 1, false), (3, 1, false)] [.int .i64 0, .int .i64 0, .bool false, .int .u8 0]
  | 9 => .one (.str [])
  | 10 => .one (.str [])
  | 11 => .one (.str [])
  | 12 => .one (.int .u64 0)
  | 13 => .st 2 [(0, 1, false), (1, 1, false)] [.str [], .int .u64 0]
  | 14 => .st 2 [(0, 1, false), (1, 1, false)] [.str [], .int .u64 0]
  | 15 => .one (.val (.pointer none))
  | 16 => .one (.val (.pointer none))
  | 17 => .one (.val (.pointer none))
  | 18 => .st 1 [(0, 1, false)] [.val (.pointer none)]
  | 19 => .st 1 [(0, 1, false)] [.val (.pointer none)]
  | 20 => .one (.val .nilIface)
  | 21 => .one (.int .i32 0)
  | 22 => .sl .node
  | 32 => .sl .node
  | 43 => .sl .attr
  | 44 => .st 6 [(0, 1, false), (1, 1, false), (2, 1, false), (3, 1, false), (4, 1, false), (5, 1, false)] [.int .i64 0, .int .i64 0, .str [], .str [], .nilS, .nilS]
  | 45 => .st 6 [(0, 1, false), (1, 1, false), (2, 1, false), (3, 1, false), (4, 1, false), (5, 1, false)] [.int .i64 0, .int .i64 0, .str [], .str [], .nilS, .nilS]
  | 49 => .sl .attr
  | 50 => .st 6 [(0, 1, false), (1, 1, false), (2, 1, false), (3, 1, false), (4, 1, false), (5, 1, false)] [.int .i64 0, .int .i64 0, .str [], .str [], .nilS, .nilS]
  | 51 => .st 6 [(0, 1, false), (1, 1, false), (2, 1, false), (3, 1, false), (4, 1, false), (5, 1, false)] [.int .i64 0, .int .i64 0, .str [], .str [], .nilS, .nilS]
  | 55 => .one (.val (.pointer none))
  | 56 => .sl .opn
  | 57 => .st 4 [(0, 1, false), (1, 1, false), (2, 1, false), (3, 1, false)] [.nilS, .nilS, .int .i64 0, .int .i64 0]
  | 58 => .st 4 [(0, 1, false), (1, 1, false), (2, 1, false), (3, 1, false)] [.nilS, .nilS, .int .i64 0, .int .i64 0]
  | 60 => .st 7 [(0, 1, false), (1, 1, false), (2, 1, false), (3, 1, false), (4, 1, false), (5, 1, false), (6, 1, false)] [.int .i64 0, .int .i64 0, .int .i64 0, .str [], .str [], .nilS, .bool false]
  | 61 => .st 7 [(0, 1, false), (1, 1, false), (2, 1, false), (3, 1, false), (4, 1, false), (5, 1, false), (6, 1, false)] [.int .i64 0, .int .i64 0, .int .i64 0, .str [], .str [], .nilS, .bool false]
  | 67 => .sl .str
  | 69 => .one (.val (.pointer none))
  | 70 => .sl .nodes
  | 71 => .st 3 [(0, 1, false), (1, 1, false), (2, 1, false)] [.nilS, .nilS, .int .i64 0]
  | 72 => .st 3 [(0, 1, false), (1, 1, false), (2, 1, false)] [.nilS, .nilS, .int .i64 0]
  | 75 => .sl .u8
  | 76 => .st 2 [(0, 1, false), (1, 1, false)] [.str [], .str []]
  | 77 => .st 2 [(0, 1, false), (1, 1, false)] [.str [], .str []]
  | 84 => .st 2 [(0, 1, false), (1, 1, false)] [.str [], .int .i64 0]
  | 85 => .st 2 [(0, 1, false), (1, 1, false)] [.str [], .int .i64 0]
  | 102 => .st 2 [(0, 1, false), (1, 1, false)] [.str [], .str []]
  | 107 => .one (.val (.pointer none))
  | 108 => .one (.val (.pointer none))
  | 109 => .st 2 [(0, 1, false), (1, 1, false)] [.val (.pointer none), .nilS]
  | 110 => .st 2 [(0, 1, false), (1, 1, false)] [.val (.pointer none), .nilS]
  | 111 => .one (.val .nilIface)
  | 112 => .one (.val .nilIface)
  | 134 => .one (.val (.pointer none))
  | 136 => .one (.val (.pointer none))
  | 152 => .one (.int .u32 0)
  | 155 => .st 2 [(0, 1, false), (1, 1, false)] [.int .i32 0, .int .u32 0]
  | 156 => .st 2 [(0, 1, false), (1, 1, false)] [.int .i32 0, .int .u32 0]
  | 161 => .one (.val .nilIface)
  | 162 => .one (.val .nilIface)
  | 172 => .one (.val (.pointer none))
  | 176 => .one (.int .u64 0)
  | 177 => .one (.int .i64 0)
  | 180 => .one (.val (.pointer none))
  | 184 => .one (.val (.pointer none))
  | 186 => .one (.val (.pointer none))
  | 188 => .one (.val (.pointer none))
  | 190 => .one (.val (.pointer none))
  | 194 => .one (.val (.pointer none))
  | 198 => .one (.val (.pointer none))
  | 203 => .one (.int .u64 0)
  | 214 => .one (.val (.pointer none))
  | 217 => .one (.val (.pointer none))
  | 219 => .st 2 [(0, 1, false), (1, 1, false)] [.val (.pointer none), .str []]
  | 220 => .st 2 [(0, 1, false), (1, 1, false)] [.val (.pointer none), .str []]
  | 221 => .one (.val (.pointer none))
  | 223 => .st 5 [(0, 1, false), (1, 1, false), (2, 1, false), (3, 1, false), (4, 1, false)] [.str [], .int .i64 0, .str [], .val (.pointer none), .nilS]
  | 224 => .st 5 [(0, 1, false), (1, 1, false), (2, 1, false), (3, 1, false), (4, 1, false)] [.str [], .int .i64 0, .str [], .val (.pointer none), .nilS]
  | 229 => .one (.val (.pointer none))
  | 230 => .st 1 [(0, 1, false)] [.str []]
  | 231 => .st 1 [(0, 1, false)] [.str []]
  | 237 => .one (.val (.pointer none))
  | 239 => .one (.val (.pointer none))
  | 243 => .sl .int
  | 248 => .st 2 [(0, 1, false), (1, 1, false)] [.int .u8 0, .int .u8 0]
  | 249 => .st 2 [(0, 1, false), (1, 1, false)] [.int .u8 0, .int .u8 0]
  | 256 => .st 4 [(0, 1, false), (1, 1, false), (2, 1, false), (3, 1, false)] [.val (.pointer none), .val (.pointer none), .val (.pointer none), .str []]
  | 257 => .st 4 [(0, 1, false), (1, 1, false), (2, 1, false), (3, 1, false)] [.val (.pointer none), .val (.pointer none), .val (.pointer none), .str []]
  | 262 => .one (.int .u8 0)
  | 263 => .one (.int .u8 0)
  | 265 => .one (.int .i32 0)
  | 266 => .one (.int .i32 0)
  | 267 => .st 11 [(0, 1, false), (1, 1, false), (2, 1, false), (3, 1, false), (4, 1, false), (5, 1, false), (6, 1, false), (7, 1, false), (8, 1, false), (9, 1, false), (10, 1, false)] [.int .u64 0, .int .u64 0, .int .u32 0, .int .u8 0, .int .u8 0, .int .u8 0, .int .u8 0, .val .nilFunc, .val (.pointer none), .int .i32 0, .int .i32 0]
  | 268 => .st 11 [(0, 1, false), (1, 1, false), (2, 1, false), (3, 1, false), (4, 1, false), (5, 1, false), (6, 1, false), (7, 1, false), (8, 1, false), (9, 1, false), (10, 1, false)] [.int .u64 0, .int .u64 0, .int .u32 0, .int .u8 0, .int .u8 0, .int .u8 0, .int .u8 0, .val .nilFunc, .val (.pointer none), .int .i32 0, .int .i32 0]
  | 270 => .sl .u8
  | 271 => .one (.val (.pointer none))
  | 272 => .one (.val .nilIface)
  | 273 => .one (.val .nilIface)
  | 274 => .one (.val .nilIface)
  | 275 => .one (.val .nilIface)
  | _ => .unk
@[push_cast] theorem td_2 : td 2 = .one (.int .i64 0) := rfl
@[push_cast] theorem td_3 : td 3 = .one (.int .i64 0) := rfl
@[push_cast] theorem td_4 : td 4 = .one (.bool false) := rfl
@[push_cast] theorem td_5 : td 5 = .one (.int .u8 0) := rfl
@[push_cast] theorem td_6 : td 6 = .one (.int .u8 0) := rfl
@[push_cast] theorem td_7 : td 7 = .st 4 [(0, 1, false), (1, 1, false), (2, 1, false), (3, 1, false)] [.int .i64 0, .int .i64 0, .bool false, .int .u8 0] := rfl
@[push_cast] theorem td_8 : td 8 = .st 4 [(0, 1, false), (1, 1, false), (2, 1, false), (3, 1, false)] [.int .i64 0, .int .i64 0, .bool false, .int .u8 0] := rfl
@[push_cast] theorem td_9 : td 9 = .one (.str []) := rfl
@[push_cast] theorem td_10 : td 10 = .one (.str []) := rfl
@[push_cast] theorem td_11 : td 11 = .one (.str []) := rfl
@[push_cast] theorem td_12 : td 12 = .one (.int .u64 0) := rfl
@[push_cast] theorem td_13 : td 13 = .st 2 [(0, 1, false), (1, 1, false)] [.str [], .int .u64 0] := rfl
@[push_cast] theorem td_14 : td 14 = .st 2 [(0, 1, false), (1, 1, false)] [.str [], .int .u64 0] := rfl
@[push_cast] theorem td_15 : td 15 = .one (.val (.pointer none)) := rfl
@[push_cast] theorem td_16 : td 16 = .one (.val (.pointer none)) := rfl
@[push_cast] theorem td_17 : td 17 = .one (.val (.pointer none)) := rfl
@[push_cast] theorem td_18 : td 18 = .st 1 [(0, 1, false)] [.val (.pointer none)] := rfl
@[push_cast] theorem td_19 : td 19 = .st 1 [(0, 1, false)] [.val (.pointer none)] := rfl
@[push_cast] theorem td_20 : td 20 = .one (.val .nilIface) := rfl
@[push_cast] theorem td_21 : td 21 = .one (.int .i32 0) := rfl
@[push_cast] theorem td_22 : td 22 = .sl .node := rfl
@[push_cast] theorem td_32 : td 32 = .sl .node := rfl
@[push_cast] theorem td_43 : td 43 = .sl .attr := rfl
@[push_cast] theorem td_44 : td 44 = .st 6 [(0, 1, false), (1, 1, false), (2, 1, false), (3, 1, false), (4, 1, false), (5, 1, false)] [.int .i64 0, .int .i64 0, .str [], .str [], .nilS, .nilS] := rfl
@[push_cast] theorem td_45 : td 45 = .st 6 [(0, 1, false), (1, 1, false), (2, 1, false), (3, 1, false), (4, 1, false), (5, 1, false)] [.int .i64 0, .int .i64 0, .str [], .str [], .nilS, .nilS] := rfl
@[push_cast] theorem td_49 : td 49 = .sl .attr := rfl
@[push_cast] theorem td_50 : td 50 = .st 6 [(0, 1, false), (1, 1, false), (2, 1, false), (3, 1, false), (4, 1, false), (5, 1, false)] [.int .i64 0, .int .i64 0, .str [], .str [], .nilS, .nilS] := rfl
@[push_cast] theorem td_51 : td 51 = .st 6 [(0, 1, false), (1, 1, false), (2, 1, false), (3, 1, false), (4, 1, false), (5, 1, false)] [.int .i64 0, .int .i64 0, .str [], .str [], .nilS, .nilS] := rfl
@[push_cast] theorem td_55 : td 55 = .one (.val (.pointer none)) := rfl
@[push_cast] theorem td_56 : td 56 = .sl .opn := rfl
@[push_cast] theorem td_57 : td 57 = .st 4 [(0, 1, false), (1, 1, false), (2, 1, false), (3, 1, false)] [.nilS, .nilS, .int .i64 0, .int .i64 0] := rfl
@[push_cast] theorem td_58 : td 58 = .st 4 [(0, 1, false), (1, 1, false), (2, 1, false), (3, 1, false)] [.nilS, .nilS, .int .i64 0, .int .i64 0] := rfl
@[push_cast] theorem td_60 : td 60 = .st 7 [(0, 1, false), (1, 1, false), (2, 1, false), (3, 1, false), (4, 1, false), (5, 1, false), (6, 1, false)] [.int .i64 0, .int .i64 0, .int .i64 0, .str [], .str [], .nilS, .bool false] := rfl
@[push_cast] theorem td_61 : td 61 = .st 7 [(0, 1, false), (1, 1, false), (2, 1, false), (3, 1, false), (4, 1, false), (5, 1, false), (6, 1, false)] [.int .i64 0, .int .i64 0, .int .i64 0, .str [], .str [], .nilS, .bool false] := rfl
@[push_cast] theorem td_67 : td 67 = .sl .str := rfl
@[push_cast] theorem td_69 : td 69 = .one (.val (.pointer none)) := rfl
@[push_cast] theorem td_70 : td 70 = .sl .nodes := rfl
@[push_cast] theorem td_71 : td 71 = .st 3 [(0, 1, false), (1, 1, false), (2, 1, false)] [.nilS, .nilS, .int .i64 0] := rfl
@[push_cast] theorem td_72 : td 72 = .st 3 [(0, 1, false), (1, 1, false), (2, 1, false)] [.nilS, .nilS, .int .i64 0] := rfl
@[push_cast] theorem td_75 : td 75 = .sl .u8 := rfl
@[push_cast] theorem td_76 : td 76 = .st 2 [(0, 1, false), (1, 1, false)] [.str [], .str []] := rfl
@[push_cast] theorem td_77 : td 77 = .st 2 [(0, 1, false), (1, 1, false)] [.str [], .str []] := rfl
@[push_cast] theorem td_84 : td 84 = .st 2 [(0, 1, false), (1, 1, false)] [.str [], .int .i64 0] := rfl
@[push_cast] theorem td_85 : td 85 = .st 2 [(0, 1, false), (1, 1, false)] [.str [], .int .i64 0] := rfl
@[push_cast] theorem td_102 : td 102 = .st 2 [(0, 1, false), (1, 1, false)] [.str [], .str []] := rfl
@[push_cast] theorem td_107 : td 107 = .one (.val (.pointer none)) := rfl
@[push_cast] theorem td_108 : td 108 = .one (.val (.pointer none)) := rfl
@[push_cast] theorem td_109 : td 109 = .st 2 [(0, 1, false), (1, 1, false)] [.val (.pointer none), .nilS] := rfl
@[push_cast] theorem td_110 : td 110 = .st 2 [(0, 1, false), (1, 1, false)] [.val (.pointer none), .nilS] := rfl
@[push_cast] theorem td_111 : td 111 = .one (.val .nilIface) := rfl
@[push_cast] theorem td_112 : td 112 = .one (.val .nilIface) := rfl
@[push_cast] theorem td_134 : td 134 = .one (.val (.pointer none)) := rfl
@[push_cast] theorem td_136 : td 136 = .one (.val (.pointer none)) := rfl
@[push_cast] theorem td_152 : td 152 = .one (.int .u32 0) := rfl
@[push_cast] theorem td_155 : td 155 = .st 2 [(0, 1, false), (1, 1, false)] [.int .i32 0, .int .u32 0] := rfl
@[push_cast] theorem td_156 : td 156 = .st 2 [(0, 1, false), (1, 1, false)] [.int .i32 0, .int .u32 0] := rfl
@[push_cast] theorem td_161 : td 161 = .one (.val .nilIface) := rfl
@[push_cast] theorem td_162 : td 162 = .one (.val .nilIface) := rfl
@[push_cast] theorem td_172 : td 172 = .one (.val (.pointer none)) := rfl
@[push_cast] theorem td_176 : td 176 = .one (.int .u64 0) := rfl
@[push_cast] theorem td_177 : td 177 = .one (.int .i64 0) := rfl
@[push_cast] theorem td_180 : td 180 = .one (.val (.pointer none)) := rfl
@[push_cast] theorem td_184 : td 184 = .one (.val (.pointer none)) := rfl
@[push_cast] theorem td_186 : td 186 = .one (.val (.pointer none)) := rfl
@[push_cast] theorem td_188 : td 188 = .one (.val (.pointer none)) := rfl
@[push_cast] theorem td_190 : td 190 = .one (.val (.pointer none)) := rfl
@[push_cast] theorem td_194 : td 194 = .one (.val (.pointer none)) := rfl
@[push_cast] theorem td_198 : td 198 = .one (.val (.pointer none)) := rfl
@[push_cast] theorem td_203 : td 203 = .one (.int .u64 0) := rfl
@[push_cast] theorem td_214 : td 214 = .one (.val (.pointer none)) := rfl
@[push_cast] theorem td_217 : td 217 = .one (.val (.pointer none)) := rfl
@[push_cast] theorem td_219 : td 219 = .st 2 [(0, 1, false), (1, 1, false)] [.val (.pointer none), .str []] := rfl
@[push_cast] theorem td_220 : td 220 = .st 2 [(0, 1, false), (1, 1, false)] [.val (.pointer none), .str []] := rfl
@[push_cast] theorem td_221 : td 221 = .one (.val (.pointer none)) := rfl
@[push_cast] theorem td_223 : td 223 = .st 5 [(0, 1, false), (1, 1, false), (2, 1, false), (3, 1, false), (4, 1, false)] [.str [], .int .i64 0, .str [], .val (.pointer none), .nilS] := rfl
@[push_cast] theorem td_224 : td 224 = .st 5 [(0, 1, false), (1, 1, false), (2, 1, false), (3, 1, false), (4, 1, false)] [.str [], .int .i64 0, .str [], .val (.pointer none), .nilS] := rfl
@[push_cast] theorem td_229 : td 229 = .one (.val (.pointer none)) := rfl
@[push_cast] theorem td_230 : td 230 = .st 1 [(0, 1, false)] [.str []] := rfl
@[push_cast] theorem td_231 : td 231 = .st 1 [(0, 1, false)] [.str []] := rfl
@[push_cast] theorem td_237 : td 237 = .one (.val (.pointer none)) := rfl
@[push_cast] theorem td_239 : td 239 = .one (.val (.pointer none)) := rfl
@[push_cast] theorem td_243 : td 243 = .sl .int := rfl
@[push_cast] theorem td_248 : td 248 = .st 2 [(0, 1, false), (1, 1, false)] [.int .u8 0, .int .u8 0] := rfl
@[push_cast] theorem td_249 : td 249 = .st 2 [(0, 1, false), (1, 1, false)] [.int .u8 0, .int .u8 0] := rfl
@[push_cast] theorem td_256 : td 256 = .st 4 [(0, 1, false), (1, 1, false), (2, 1, false), (3, 1, false)] [.val (.pointer none), .val (.pointer none), .val (.pointer none), .str []] := rfl
@[push_cast] theorem td_257 : td 257 = .st 4 [(0, 1, false), (1, 1, false), (2, 1, false), (3, 1, false)] [.val (.pointer none), .val (.pointer none), .val (.pointer none), .str []] := rfl
@[push_cast] theorem td_262 : td 262 = .one (.int .u8 0) := rfl
@[push_cast] theorem td_263 : td 263 = .one (.int .u8 0) := rfl
@[push_cast] theorem td_265 : td 265 = .one (.int .i32 0) := rfl
@[push_cast] theorem td_266 : td 266 = .one (.int .i32 0) := rfl
@[push_cast] theorem td_267 : td 267 = .st 11 [(0, 1, false), (1, 1, false), (2, 1, false), (3, 1, false), (4, 1, false), (5, 1, false), (6, 1, false), (7, 1, false), (8, 1, false), (9, 1, false), (10, 1, false)] [.int .u64 0, .int .u64 0, .int .u32 0, .int .u8 0, .int .u8 0, .int .u8 0, .int .u8 0, .val .nilFunc, .val (.pointer none), .int .i32 0, .int .i32 0] := rfl
@[push_cast] theorem td_268 : td 268 = .st 11 [(0, 1, false), (1, 1, false), (2, 1, false), (3, 1, false), (4, 1, false), (5, 1, false), (6, 1, false), (7, 1, false), (8, 1, false), (9, 1, false), (10, 1, false)] [.int .u64 0, .int .u64 0, .int .u32 0, .int .u8 0, .int .u8 0, .int .u8 0, .int .u8 0, .val .nilFunc, .val (.pointer none), .int .i32 0, .int .i32 0] := rfl
@[push_cast] theorem td_270 : td 270 = .sl .u8 := rfl
@[push_cast] theorem td_271 : td 271 = .one (.val (.pointer none)) := rfl
@[push_cast] theorem td_272 : td 272 = .one (.val .nilIface) := rfl
@[push_cast] theorem td_273 : td 273 = .one (.val .nilIface) := rfl
@[push_cast] theorem td_274 : td 274 = .one (.val .nilIface) := rfl
@[push_cast] theorem td_275 : td 275 = .one (.val .nilIface) := rfl
theorem tdok_2 (E : Env) : TDok P0 E 2 (.one (.int .i64 0)) := ⟨.int .i64, .int .i64 0, by kernel_rfl, by kernel_rfl, rfl, rfl, rfl⟩
theorem tdok_3 (E : Env) : TDok P0 E 3 (.one (.int .i64 0)) := ⟨.int .i64, .int .i64 0, by kernel_rfl, by kernel_rfl, rfl, rfl, rfl⟩
theorem tdok_4 (E : Env) : TDok P0 E 4 (.one (.bool false)) := ⟨.bool, .bool false, by kernel_rfl, by kernel_rfl, rfl, rfl, rfl⟩
theorem tdok_5 (E : Env) : TDok P0 E 5 (.one (.int .u8 0)) := ⟨.int .u8, .int .u8 0, by kernel_rfl, by kernel_rfl, rfl, rfl, rfl⟩
theorem tdok_6 (E : Env) : TDok P0 E 6 (.one (.int .u8 0)) := ⟨.int .u8, .int .u8 0, by kernel_rfl, by kernel_rfl, rfl, rfl, rfl⟩
theorem tdok_7 (E : Env) : TDok P0 E 7 (.st 4 [(0, 1, false), (1, 1, false), (2, 1, false), (3, 1, false)] [.int .i64 0, .int .i64 0, .bool false, .int .u8 0]) := ⟨#[.int .i64 0, .int .i64 0, .bool false, .int .u8 0], by kernel_rfl, by kernel_rfl, rfl, rfl⟩
theorem tdok_8 (E : Env) : TDok P0 E 8 (.st 4 [(0, 1, false), (1, 1, false), (2, 1, false), (3, 1, false)] [.int .i64 0, .int .i64 0, .bool false, .int .u8 0]) := ⟨#[.int .i64 0, .int .i64 0, .bool false, .int .u8 0], by kernel_rfl, by kernel_rfl, rfl, rfl⟩
theorem tdok_9 (E : Env) : TDok P0 E 9 (.one (.str [])) := ⟨.string, .string ⟨#[]⟩, by kernel_rfl, by kernel_rfl, rfl, rfl, rfl⟩
theorem tdok_10 (E : Env) : TDok P0 E 10 (.one (.str [])) := ⟨.string, .string ⟨#[]⟩, by kernel_rfl, by kernel_rfl, rfl, rfl, rfl⟩
theorem tdok_11 (E : Env) : TDok P0 E 11 (.one (.str [])) := ⟨.string, .string ⟨#[]⟩, by kernel_rfl, by kernel_rfl, rfl, rfl, rfl⟩
theorem tdok_12 (E : Env) : TDok P0 E 12 (.one (.int .u64 0)) := ⟨.int .u64, .int .u64 0, by kernel_rfl, by kernel_rfl, rfl, rfl, rfl⟩
theorem tdok_13 (E : Env) : TDok P0 E 13 (.st 2 [(0, 1, false), (1, 1, false)] [.str [], .int .u64 0]) := ⟨#[.string ⟨#[]⟩, .int .u64 0], by kernel_rfl, by kernel_rfl, rfl, rfl⟩
theorem tdok_14 (E : Env) : TDok P0 E 14 (.st 2 [(0, 1, false), (1, 1, false)] [.str [], .int .u64 0]) := ⟨#[.string ⟨#[]⟩, .int .u64 0], by kernel_rfl, by kernel_rfl, rfl, rfl⟩
theorem tdok_15 (E : Env) : TDok P0 E 15 (.one (.val (.pointer none))) := ⟨.pointer 257, .pointer none, by kernel_rfl, by kernel_rfl, rfl, rfl, ⟨_, rfl⟩⟩
theorem tdok_16 (E : Env) : TDok P0 E 16 (.one (.val (.pointer none))) := ⟨.pointer 260, .pointer none, by kernel_rfl, by kernel_rfl, rfl, rfl, ⟨_, rfl⟩⟩
theorem tdok_17 (E : Env) : TDok P0 E 17 (.one (.val (.pointer none))) := ⟨.pointer 268, .pointer none, by kernel_rfl, by kernel_rfl, rfl, rfl, ⟨_, rfl⟩⟩
theorem tdok_18 (E : Env) : TDok P0 E 18 (.st 1 [(0, 1, false)] [.val (.pointer none)]) := ⟨#[.pointer none], by kernel_rfl, by kernel_rfl, rfl, rfl⟩
theorem tdok_19 (E : Env) : TDok P0 E 19 (.st 1 [(0, 1, false)] [.val (.pointer none)]) := ⟨#[.pointer none], by kernel_rfl, by kernel_rfl, rfl, rfl⟩
theorem tdok_20 (E : Env) : TDok P0 E 20 (.one (.val .nilIface)) := ⟨.interface #[], .nilIface, by kernel_rfl, by kernel_rfl, rfl, rfl, ⟨_, rfl⟩⟩
theorem tdok_21 (E : Env) : TDok P0 E 21 (.one (.int .i32 0)) := ⟨.int .i32, .int .i32 0, by kernel_rfl, by kernel_rfl, rfl, rfl, rfl⟩
theorem tdok_22 (E : Env) : TDok P0 E 22 (.sl .node) := ⟨45, by kernel_rfl, by kernel_rfl, by kernel_rfl, (fun h => by cases h), .agg #[.int .i64 0, .int .i64 0, .string ⟨#[]⟩, .string ⟨#[]⟩, .slice none 0 0, .slice none 0 0], 96, by kernel_rfl, by decide, by decide, rfl⟩
theorem tdok_32 (E : Env) : TDok P0 E 32 (.sl .node) := ⟨51, by kernel_rfl, by kernel_rfl, by kernel_rfl, (fun h => by cases h), .agg #[.int .i64 0, .int .i64 0, .string ⟨#[]⟩, .string ⟨#[]⟩, .slice none 0 0, .slice none 0 0], 96, by kernel_rfl, by decide, by decide, rfl⟩
theorem tdok_43 (E : Env) : TDok P0 E 43 (.sl .attr) := ⟨77, by kernel_rfl, by kernel_rfl, by kernel_rfl, (fun h => by cases h), .agg #[.string ⟨#[]⟩, .string ⟨#[]⟩], 32, by kernel_rfl, by decide, by decide, rfl⟩
theorem tdok_44 (E : Env) : TDok P0 E 44 (.st 6 [(0, 1, false), (1, 1, false), (2, 1, false), (3, 1, false), (4, 1, false), (5, 1, false)] [.int .i64 0, .int .i64 0, .str [], .str [], .nilS, .nilS]) := ⟨#[.int .i64 0, .int .i64 0, .string ⟨#[]⟩, .string ⟨#[]⟩, .slice none 0 0, .slice none 0 0], by kernel_rfl, by kernel_rfl, rfl, rfl⟩
theorem tdok_45 (E : Env) : TDok P0 E 45 (.st 6 [(0, 1, false), (1, 1, false), (2, 1, false), (3, 1, false), (4, 1, false), (5, 1, false)] [.int .i64 0, .int .i64 0, .str [], .str [], .nilS, .nilS]) := ⟨#[.int .i64 0, .int .i64 0, .string ⟨#[]⟩, .string ⟨#[]⟩, .slice none 0 0, .slice none 0 0], by kernel_rfl, by kernel_rfl, rfl, rfl⟩
theorem tdok_49 (E : Env) : TDok P0 E 49 (.sl .attr) := ⟨102, by kernel_rfl, by kernel_rfl, by kernel_rfl, (fun h => by cases h), .agg #[.string ⟨#[]⟩, .string ⟨#[]⟩], 32, by kernel_rfl, by decide, by decide, rfl⟩
theorem tdok_50 (E : Env) : TDok P0 E 50 (.st 6 [(0, 1, false), (1, 1, false), (2, 1, false), (3, 1, false), (4, 1, false), (5, 1, false)] [.int .i64 0, .int .i64 0, .str [], .str [], .nilS, .nilS]) := ⟨#[.int .i64 0, .int .i64 0, .string ⟨#[]⟩, .string ⟨#[]⟩, .slice none 0 0, .slice none 0 0], by kernel_rfl, by kernel_rfl, rfl, rfl⟩
theorem tdok_51 (E : Env) : TDok P0 E 51 (.st 6 [(0, 1, false), (1, 1, false), (2, 1, false), (3, 1, false), (4, 1, false), (5, 1, false)] [.int .i64 0, .int .i64 0, .str [], .str [], .nilS, .nilS]) := ⟨#[.int .i64 0, .int .i64 0, .string ⟨#[]⟩, .string ⟨#[]⟩, .slice none 0 0, .slice none 0 0], by kernel_rfl, by kernel_rfl, rfl, rfl⟩
theorem tdok_55 (E : Env) : TDok P0 E 55 (.one (.val (.pointer none))) := ⟨.pointer 58, .pointer none, by kernel_rfl, by kernel_rfl, rfl, rfl, ⟨_, rfl⟩⟩
theorem tdok_56 (E : Env) : TDok P0 E 56 (.sl .opn) := ⟨85, by kernel_rfl, by kernel_rfl, by kernel_rfl, (fun h => by cases h), .agg #[.string ⟨#[]⟩, .int .i64 0], 24, by kernel_rfl, by decide, by decide, rfl⟩
theorem tdok_57 (E : Env) : TDok P0 E 57 (.st 4 [(0, 1, false), (1, 1, false), (2, 1, false), (3, 1, false)] [.nilS, .nilS, .int .i64 0, .int .i64 0]) := ⟨#[.slice none 0 0, .slice none 0 0, .int .i64 0, .int .i64 0], by kernel_rfl, by kernel_rfl, rfl, rfl⟩
theorem tdok_58 (E : Env) : TDok P0 E 58 (.st 4 [(0, 1, false), (1, 1, false), (2, 1, false), (3, 1, false)] [.nilS, .nilS, .int .i64 0, .int .i64 0]) := ⟨#[.slice none 0 0, .slice none 0 0, .int .i64 0, .int .i64 0], by kernel_rfl, by kernel_rfl, rfl, rfl⟩
theorem tdok_60 (E : Env) : TDok P0 E 60 (.st 7 [(0, 1, false), (1, 1, false), (2, 1, false), (3, 1, false), (4, 1, false), (5, 1, false), (6, 1, false)] [.int .i64 0, .int .i64 0, .int .i64 0, .str [], .str [], .nilS, .bool false]) := ⟨#[.int .i64 0, .int .i64 0, .int .i64 0, .string ⟨#[]⟩, .string ⟨#[]⟩, .slice none 0 0, .bool false], by kernel_rfl, by kernel_rfl, rfl, rfl⟩
theorem tdok_61 (E : Env) : TDok P0 E 61 (.st 7 [(0, 1, false), (1, 1, false), (2, 1, false), (3, 1, false), (4, 1, false), (5, 1, false), (6, 1, false)] [.int .i64 0, .int .i64 0, .int .i64 0, .str [], .str [], .nilS, .bool false]) := ⟨#[.int .i64 0, .int .i64 0, .int .i64 0, .string ⟨#[]⟩, .string ⟨#[]⟩, .slice none 0 0, .bool false], by kernel_rfl, by kernel_rfl, rfl, rfl⟩
theorem tdok_67 (E : Env) : TDok P0 E 67 (.sl .str) := ⟨9, by kernel_rfl, by kernel_rfl, by kernel_rfl, (fun h => by cases h), .string ⟨#[]⟩, 16, by kernel_rfl, by decide, by decide, rfl⟩
theorem tdok_69 (E : Env) : TDok P0 E 69 (.one (.val (.pointer none))) := ⟨.pointer 72, .pointer none, by kernel_rfl, by kernel_rfl, rfl, rfl, ⟨_, rfl⟩⟩
theorem tdok_70 (E : Env) : TDok P0 E 70 (.sl .nodes) := ⟨22, by kernel_rfl, by kernel_rfl, by kernel_rfl, (fun h => by cases h), .slice none 0 0, 24, by kernel_rfl, by decide, by decide, rfl⟩
theorem tdok_71 (E : Env) : TDok P0 E 71 (.st 3 [(0, 1, false), (1, 1, false), (2, 1, false)] [.nilS, .nilS, .int .i64 0]) := ⟨#[.slice none 0 0, .slice none 0 0, .int .i64 0], by kernel_rfl, by kernel_rfl, rfl, rfl⟩
theorem tdok_72 (E : Env) : TDok P0 E 72 (.st 3 [(0, 1, false), (1, 1, false), (2, 1, false)] [.nilS, .nilS, .int .i64 0]) := ⟨#[.slice none 0 0, .slice none 0 0, .int .i64 0], by kernel_rfl, by kernel_rfl, rfl, rfl⟩
theorem tdok_75 (E : Env) : TDok P0 E 75 (.sl .u8) := ⟨5, by kernel_rfl, by kernel_rfl, by kernel_rfl, (fun _ => by kernel_rfl), .int .u8 0, 1, by kernel_rfl, by decide, by decide, rfl⟩
theorem tdok_76 (E : Env) : TDok P0 E 76 (.st 2 [(0, 1, false), (1, 1, false)] [.str [], .str []]) := ⟨#[.string ⟨#[]⟩, .string ⟨#[]⟩], by kernel_rfl, by kernel_rfl, rfl, rfl⟩
theorem tdok_77 (E : Env) : TDok P0 E 77 (.st 2 [(0, 1, false), (1, 1, false)] [.str [], .str []]) := ⟨#[.string ⟨#[]⟩, .string ⟨#[]⟩], by kernel_rfl, by kernel_rfl, rfl, rfl⟩
theorem tdok_84 (E : Env) : TDok P0 E 84 (.st 2 [(0, 1, false), (1, 1, false)] [.str [], .int .i64 0]) := ⟨#[.string ⟨#[]⟩, .int .i64 0], by kernel_rfl, by kernel_rfl, rfl, rfl⟩
theorem tdok_85 (E : Env) : TDok P0 E 85 (.st 2 [(0, 1, false), (1, 1, false)] [.str [], .int .i64 0]) := ⟨#[.string ⟨#[]⟩, .int .i64 0], by kernel_rfl, by kernel_rfl, rfl, rfl⟩
theorem tdok_102 (E : Env) : TDok P0 E 102 (.st 2 [(0, 1, false), (1, 1, false)] [.str [], .str []]) := ⟨#[.string ⟨#[]⟩, .string ⟨#[]⟩], by kernel_rfl, by kernel_rfl, rfl, rfl⟩
theorem tdok_107 (E : Env) : TDok P0 E 107 (.one (.val (.pointer none))) := ⟨.pointer 3, .pointer none, by kernel_rfl, by kernel_rfl, rfl, rfl, ⟨_, rfl⟩⟩
theorem tdok_108 (E : Env) : TDok P0 E 108 (.one (.val (.pointer none))) := ⟨.pointer 110, .pointer none, by kernel_rfl, by kernel_rfl, rfl, rfl, ⟨_, rfl⟩⟩
theorem tdok_109 (E : Env) : TDok P0 E 109 (.st 2 [(0, 1, false), (1, 1, false)] [.val (.pointer none), .nilS]) := ⟨#[.pointer none, .slice none 0 0], by kernel_rfl, by kernel_rfl, rfl, rfl⟩
theorem tdok_110 (E : Env) : TDok P0 E 110 (.st 2 [(0, 1, false), (1, 1, false)] [.val (.pointer none), .nilS]) := ⟨#[.pointer none, .slice none 0 0], by kernel_rfl, by kernel_rfl, rfl, rfl⟩
theorem tdok_111 (E : Env) : TDok P0 E 111 (.one (.val .nilIface)) := ⟨.interface #[("Error", 59)], .nilIface, by kernel_rfl, by kernel_rfl, rfl, rfl, ⟨_, rfl⟩⟩
theorem tdok_112 (E : Env) : TDok P0 E 112 (.one (.val .nilIface)) := ⟨.interface #[("Error", 59)], .nilIface, by kernel_rfl, by kernel_rfl, rfl, rfl, ⟨_, rfl⟩⟩
theorem tdok_134 (E : Env) : TDok P0 E 134 (.one (.val (.pointer none))) := ⟨.pointer 164, .pointer none, by kernel_rfl, by kernel_rfl, rfl, rfl, ⟨_, rfl⟩⟩
theorem tdok_136 (E : Env) : TDok P0 E 136 (.one (.val (.pointer none))) := ⟨.pointer 5, .pointer none, by kernel_rfl, by kernel_rfl, rfl, rfl, ⟨_, rfl⟩⟩
theorem tdok_152 (E : Env) : TDok P0 E 152 (.one (.int .u32 0)) := ⟨.int .u32, .int .u32 0, by kernel_rfl, by kernel_rfl, rfl, rfl, rfl⟩
theorem tdok_155 (E : Env) : TDok P0 E 155 (.st 2 [(0, 1, false), (1, 1, false)] [.int .i32 0, .int .u32 0]) := ⟨#[.int .i32 0, .int .u32 0], by kernel_rfl, by kernel_rfl, rfl, rfl⟩
theorem tdok_156 (E : Env) : TDok P0 E 156 (.st 2 [(0, 1, false), (1, 1, false)] [.int .i32 0, .int .u32 0]) := ⟨#[.int .i32 0, .int .u32 0], by kernel_rfl, by kernel_rfl, rfl, rfl⟩
theorem tdok_161 (E : Env) : TDok P0 E 161 (.one (.val .nilIface)) := ⟨.interface #[("Replace", 91), ("WriteString", 269)], .nilIface, by kernel_rfl, by kernel_rfl, rfl, rfl, ⟨_, rfl⟩⟩
theorem tdok_162 (E : Env) : TDok P0 E 162 (.one (.val .nilIface)) := ⟨.interface #[("Replace", 91), ("WriteString", 269)], .nilIface, by kernel_rfl, by kernel_rfl, rfl, rfl, ⟨_, rfl⟩⟩
theorem tdok_172 (E : Env) : TDok P0 E 172 (.one (.val (.pointer none))) := ⟨.pointer 160, .pointer none, by kernel_rfl, by kernel_rfl, rfl, rfl, ⟨_, rfl⟩⟩
theorem tdok_176 (E : Env) : TDok P0 E 176 (.one (.int .u64 0)) := ⟨.int .u64, .int .u64 0, by kernel_rfl, by kernel_rfl, rfl, rfl, rfl⟩
theorem tdok_177 (E : Env) : TDok P0 E 177 (.one (.int .i64 0)) := ⟨.int .i64, .int .i64 0, by kernel_rfl, by kernel_rfl, rfl, rfl, rfl⟩
theorem tdok_180 (E : Env) : TDok P0 E 180 (.one (.val (.pointer none))) := ⟨.pointer 207, .pointer none, by kernel_rfl, by kernel_rfl, rfl, rfl, ⟨_, rfl⟩⟩
theorem tdok_184 (E : Env) : TDok P0 E 184 (.one (.val (.pointer none))) := ⟨.pointer 154, .pointer none, by kernel_rfl, by kernel_rfl, rfl, rfl, ⟨_, rfl⟩⟩
theorem tdok_186 (E : Env) : TDok P0 E 186 (.one (.val (.pointer none))) := ⟨.pointer 152, .pointer none, by kernel_rfl, by kernel_rfl, rfl, rfl, ⟨_, rfl⟩⟩
theorem tdok_188 (E : Env) : TDok P0 E 188 (.one (.val (.pointer none))) := ⟨.pointer 220, .pointer none, by kernel_rfl, by kernel_rfl, rfl, rfl, ⟨_, rfl⟩⟩
theorem tdok_190 (E : Env) : TDok P0 E 190 (.one (.val (.pointer none))) := ⟨.pointer 226, .pointer none, by kernel_rfl, by kernel_rfl, rfl, rfl, ⟨_, rfl⟩⟩
theorem tdok_194 (E : Env) : TDok P0 E 194 (.one (.val (.pointer none))) := ⟨.pointer 193, .pointer none, by kernel_rfl, by kernel_rfl, rfl, rfl, ⟨_, rfl⟩⟩
theorem tdok_198 (E : Env) : TDok P0 E 198 (.one (.val (.pointer none))) := ⟨.pointer 197, .pointer none, by kernel_rfl, by kernel_rfl, rfl, rfl, ⟨_, rfl⟩⟩
theorem tdok_203 (E : Env) : TDok P0 E 203 (.one (.int .u64 0)) := ⟨.int .u64, .int .u64 0, by kernel_rfl, by kernel_rfl, rfl, rfl, rfl⟩
theorem tdok_214 (E : Env) : TDok P0 E 214 (.one (.val (.pointer none))) := ⟨.pointer 158, .pointer none, by kernel_rfl, by kernel_rfl, rfl, rfl, ⟨_, rfl⟩⟩
theorem tdok_217 (E : Env) : TDok P0 E 217 (.one (.val (.pointer none))) := ⟨.pointer 246, .pointer none, by kernel_rfl, by kernel_rfl, rfl, rfl, ⟨_, rfl⟩⟩
theorem tdok_219 (E : Env) : TDok P0 E 219 (.st 2 [(0, 1, false), (1, 1, false)] [.val (.pointer none), .str []]) := ⟨#[.pointer none, .string ⟨#[]⟩], by kernel_rfl, by kernel_rfl, rfl, rfl⟩
theorem tdok_220 (E : Env) : TDok P0 E 220 (.st 2 [(0, 1, false), (1, 1, false)] [.val (.pointer none), .str []]) := ⟨#[.pointer none, .string ⟨#[]⟩], by kernel_rfl, by kernel_rfl, rfl, rfl⟩
theorem tdok_221 (E : Env) : TDok P0 E 221 (.one (.val (.pointer none))) := ⟨.pointer 224, .pointer none, by kernel_rfl, by kernel_rfl, rfl, rfl, ⟨_, rfl⟩⟩
theorem tdok_223 (E : Env) : TDok P0 E 223 (.st 5 [(0, 1, false), (1, 1, false), (2, 1, false), (3, 1, false), (4, 1, false)] [.str [], .int .i64 0, .str [], .val (.pointer none), .nilS]) := ⟨#[.string ⟨#[]⟩, .int .i64 0, .string ⟨#[]⟩, .pointer none, .slice none 0 0], by kernel_rfl, by kernel_rfl, rfl, rfl⟩
theorem tdok_224 (E : Env) : TDok P0 E 224 (.st 5 [(0, 1, false), (1, 1, false), (2, 1, false), (3, 1, false), (4, 1, false)] [.str [], .int .i64 0, .str [], .val (.pointer none), .nilS]) := ⟨#[.string ⟨#[]⟩, .int .i64 0, .string ⟨#[]⟩, .pointer none, .slice none 0 0], by kernel_rfl, by kernel_rfl, rfl, rfl⟩
theorem tdok_229 (E : Env) : TDok P0 E 229 (.one (.val (.pointer none))) := ⟨.pointer 231, .pointer none, by kernel_rfl, by kernel_rfl, rfl, rfl, ⟨_, rfl⟩⟩
theorem tdok_230 (E : Env) : TDok P0 E 230 (.st 1 [(0, 1, false)] [.str []]) := ⟨#[.string ⟨#[]⟩], by kernel_rfl, by kernel_rfl, rfl, rfl⟩
theorem tdok_231 (E : Env) : TDok P0 E 231 (.st 1 [(0, 1, false)] [.str []]) := ⟨#[.string ⟨#[]⟩], by kernel_rfl, by kernel_rfl, rfl, rfl⟩
theorem tdok_237 (E : Env) : TDok P0 E 237 (.one (.val (.pointer none))) := ⟨.pointer 156, .pointer none, by kernel_rfl, by kernel_rfl, rfl, rfl, ⟨_, rfl⟩⟩
theorem tdok_239 (E : Env) : TDok P0 E 239 (.one (.val (.pointer none))) := ⟨.pointer 21, .pointer none, by kernel_rfl, by kernel_rfl, rfl, rfl, ⟨_, rfl⟩⟩
theorem tdok_243 (E : Env) : TDok P0 E 243 (.sl .int) := ⟨3, by kernel_rfl, by kernel_rfl, by kernel_rfl, (fun h => by cases h), .int .i64 0, 8, by kernel_rfl, by decide, by decide, rfl⟩
theorem tdok_248 (E : Env) : TDok P0 E 248 (.st 2 [(0, 1, false), (1, 1, false)] [.int .u8 0, .int .u8 0]) := ⟨#[.int .u8 0, .int .u8 0], by kernel_rfl, by kernel_rfl, rfl, rfl⟩
theorem tdok_249 (E : Env) : TDok P0 E 249 (.st 2 [(0, 1, false), (1, 1, false)] [.int .u8 0, .int .u8 0]) := ⟨#[.int .u8 0, .int .u8 0], by kernel_rfl, by kernel_rfl, rfl, rfl⟩
theorem tdok_256 (E : Env) : TDok P0 E 256 (.st 4 [(0, 1, false), (1, 1, false), (2, 1, false), (3, 1, false)] [.val (.pointer none), .val (.pointer none), .val (.pointer none), .str []]) := ⟨#[.pointer none, .pointer none, .pointer none, .string ⟨#[]⟩], by kernel_rfl, by kernel_rfl, rfl, rfl⟩
theorem tdok_257 (E : Env) : TDok P0 E 257 (.st 4 [(0, 1, false), (1, 1, false), (2, 1, false), (3, 1, false)] [.val (.pointer none), .val (.pointer none), .val (.pointer none), .str []]) := ⟨#[.pointer none, .pointer none, .pointer none, .string ⟨#[]⟩], by kernel_rfl, by kernel_rfl, rfl, rfl⟩
theorem tdok_262 (E : Env) : TDok P0 E 262 (.one (.int .u8 0)) := ⟨.int .u8, .int .u8 0, by kernel_rfl, by kernel_rfl, rfl, rfl, rfl⟩
theorem tdok_263 (E : Env) : TDok P0 E 263 (.one (.int .u8 0)) := ⟨.int .u8, .int .u8 0, by kernel_rfl, by kernel_rfl, rfl, rfl, rfl⟩
theorem tdok_265 (E : Env) : TDok P0 E 265 (.one (.int .i32 0)) := ⟨.int .i32, .int .i32 0, by kernel_rfl, by kernel_rfl, rfl, rfl, rfl⟩
theorem tdok_266 (E : Env) : TDok P0 E 266 (.one (.int .i32 0)) := ⟨.int .i32, .int .i32 0, by kernel_rfl, by kernel_rfl, rfl, rfl, rfl⟩
theorem tdok_267 (E : Env) : TDok P0 E 267 (.st 11 [(0, 1, false), (1, 1, false), (2, 1, false), (3, 1, false), (4, 1, false), (5, 1, false), (6, 1, false), (7, 1, false), (8, 1, false), (9, 1, false), (10, 1, false)] [.int .u64 0, .int .u64 0, .int .u32 0, .int .u8 0, .int .u8 0, .int .u8 0, .int .u8 0, .val .nilFunc, .val (.pointer none), .int .i32 0, .int .i32 0]) := ⟨#[.int .u64 0, .int .u64 0, .int .u32 0, .int .u8 0, .int .u8 0, .int .u8 0, .int .u8 0, .nilFunc, .pointer none, .int .i32 0, .int .i32 0], by kernel_rfl, by kernel_rfl, rfl, rfl⟩
theorem tdok_268 (E : Env) : TDok P0 E 268 (.st 11 [(0, 1, false), (1, 1, false), (2, 1, false), (3, 1, false), (4, 1, false), (5, 1, false), (6, 1, false), (7, 1, false), (8, 1, false), (9, 1, false), (10, 1, false)] [.int .u64 0, .int .u64 0, .int .u32 0, .int .u8 0, .int .u8 0, .int .u8 0, .int .u8 0, .val .nilFunc, .val (.pointer none), .int .i32 0, .int .i32 0]) := ⟨#[.int .u64 0, .int .u64 0, .int .u32 0, .int .u8 0, .int .u8 0, .int .u8 0, .int .u8 0, .nilFunc, .pointer none, .int .i32 0, .int .i32 0], by kernel_rfl, by kernel_rfl, rfl, rfl⟩
theorem tdok_270 (E : Env) : TDok P0 E 270 (.sl .u8) := ⟨5, by kernel_rfl, by kernel_rfl, by kernel_rfl, (fun _ => by kernel_rfl), .int .u8 0, 1, by kernel_rfl, by decide, by decide, rfl⟩
theorem tdok_271 (E : Env) : TDok P0 E 271 (.one (.val (.pointer none))) := ⟨.pointer 270, .pointer none, by kernel_rfl, by kernel_rfl, rfl, rfl, ⟨_, rfl⟩⟩
theorem tdok_272 (E : Env) : TDok P0 E 272 (.one (.val .nilIface)) := ⟨.interface #[("Write", 282)], .nilIface, by kernel_rfl, by kernel_rfl, rfl, rfl, ⟨_, rfl⟩⟩
theorem tdok_273 (E : Env) : TDok P0 E 273 (.one (.val .nilIface)) := ⟨.interface #[("Write", 282)], .nilIface, by kernel_rfl, by kernel_rfl, rfl, rfl, ⟨_, rfl⟩⟩
theorem tdok_274 (E : Env) : TDok P0 E 274 (.one (.val .nilIface)) := ⟨.interface #[("WriteString", 114)], .nilIface, by kernel_rfl, by kernel_rfl, rfl, rfl, ⟨_, rfl⟩⟩
theorem tdok_275 (E : Env) : TDok P0 E 275 (.one (.val .nilIface)) := ⟨.interface #[("WriteString", 114)], .nilIface, by kernel_rfl, by kernel_rfl, rfl, rfl, ⟨_, rfl⟩⟩
theorem tdok (E : Env) (t : TypeId) : TDok P0 E t (td t) := by
  unfold td
  split
  · exact tdok_2 E
  · exact tdok_3 E
  · exact tdok_4 E
  · exact tdok_5 E
  · exact tdok_6 E
  · exact tdok_7 E
  · exact tdok_8 E
  · exact tdok_9 E
  · exact tdok_10 E
  · exact tdok_11 E
  · exact tdok_12 E
  · exact tdok_13 E
  · exact tdok_14 E
  · exact tdok_15 E
  · exact tdok_16 E
  · exact tdok_17 E
  · exact tdok_18 E
  · exact tdok_19 E
  · exact tdok_20 E
  · exact tdok_21 E
  · exact tdok_22 E
  · exact tdok_32 E
  · exact tdok_43 E
  · exact tdok_44 E
  · exact tdok_45 E
  · exact tdok_49 E
  · exact tdok_50 E
  · exact tdok_51 E
  · exact tdok_55 E
  · exact tdok_56 E
  · exact tdok_57 E
  · exact tdok_58 E
  · exact tdok_60 E
  · exact tdok_61 E
  · exact tdok_67 E
  · exact tdok_69 E
  · exact tdok_70 E
  · exact tdok_71 E
  · exact tdok_72 E
  · exact tdok_75 E
  · exact tdok_76 E
  · exact tdok_77 E
  · exact tdok_84 E
  · exact tdok_85 E
  · exact tdok_102 E
  · exact tdok_107 E
  · exact tdok_108 E
  · exact tdok_109 E
  · exact tdok_110 E
  · exact tdok_111 E
  · exact tdok_112 E
  · exact tdok_134 E
  · exact tdok_136 E
  · exact tdok_152 E
  · exact tdok_155 E
  · exact tdok_156 E
  · exact tdok_161 E
  · exact tdok_162 E
  · exact tdok_172 E
  · exact tdok_176 E
  · exact tdok_177 E
  · exact tdok_180 E
  · exact tdok_184 E
  · exact tdok_186 E
  · exact tdok_188 E
  · exact tdok_190 E
  · exact tdok_194 E
  · exact tdok_198 E
  · exact tdok_203 E
  · exact tdok_214 E
  · exact tdok_217 E
  · exact tdok_219 E
  · exact tdok_220 E
  · exact tdok_221 E
  · exact tdok_223 E
  · exact tdok_224 E
  · exact tdok_229 E
  · exact tdok_230 E
  · exact tdok_231 E
  · exact tdok_237 E
  · exact tdok_239 E
  · exact tdok_243 E
  · exact tdok_248 E
  · exact tdok_249 E
  · exact tdok_256 E
  · exact tdok_257 E
  · exact tdok_262 E
  · exact tdok_263 E
  · exact tdok_265 E
  · exact tdok_266 E
  · exact tdok_267 E
  · exact tdok_268 E
  · exact tdok_270 E
  · exact tdok_271 E
  · exact tdok_272 E
  · exact tdok_273 E
  · exact tdok_274 E
  · exact tdok_275 E
  · trivial
def eqt : TypeId → Bool
  | 76 => true
  | 77 => true
  | 102 => true
  | 84 => true
  | 85 => true
  | _ => false
@[push_cast] theorem eqt_76 : eqt 76 = true := rfl
@[push_cast] theorem eqt_77 : eqt 77 = true := rfl
@[push_cast] theorem eqt_102 : eqt 102 = true := rfl
@[push_cast] theorem eqt_84 : eqt 84 = true := rfl
@[push_cast] theorem eqt_85 : eqt 85 = true := rfl
theorem eqt_ok (t : TypeId) (h : eqt t = true) : EqS P0 (td t) t := by
  unfold eqt at h
  split at h
  · exact ⟨fun _ => eqS_ofB (by kernel_rfl), fun h => (by cases h)⟩
  · exact ⟨fun _ => eqS_ofB (by kernel_rfl), fun h => (by cases h)⟩
  · exact ⟨fun _ => eqS_ofB (by kernel_rfl), fun h => (by cases h)⟩
  · exact ⟨fun h => (by cases h), fun _ => eqI_ofB (by kernel_rfl)⟩
  · exact ⟨fun h => (by cases h), fun _ => eqI_ofB (by kernel_rfl)⟩
  · cases h
def ety0 : K → TypeId := fun _ => 0
def mk (l : List (FuncId × Spec)) (d : List (Nat × List Nat × List Alt)) (g : List (Nat × List Gho) := []) (il : List (FuncId × Inl) := []) (fd : Option FuncId := none) : Env := ⟨td, ety0, calOf l, drOf d, eqt, ghOf g, inlF il, fndF fd⟩
theorem mixed : P0.follows .mixedOrders = true := by kernel_rfl
theorem mkOk {l : List (FuncId × Spec)} {d : List (Nat × List Nat × List Alt)} {g : List (Nat × List Gho)} {il : List (FuncId × Inl)} {fd : Option FuncId} (h : Rows P0 ety0 l) (hi : Inls P0 il := by exact .nil) (hf : Fnds P0 fd := by exact .nil) : EnvOk P0 (mk l d g il fd) := EnvOk.of mixed tdok h _ _ eqt_ok _ _ hi.get _ hf.get
end Go.Ab
