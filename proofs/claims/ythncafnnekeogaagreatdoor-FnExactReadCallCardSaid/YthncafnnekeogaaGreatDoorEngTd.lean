/- The table of types. -/
import Derived.Test.YthncafnnekeogaaGreatDoorEng4
import Derived.Lib.LaidTab
import Derived.Lib.ItoaNum
import Derived.Test.YthncafnnekeogaaGreatDoorProg
set_option linter.all false
set_option linter.unusedSimpArgs false
set_option linter.unusedVariables false
set_option linter.unusedSectionVars false
namespace Go.Ab
open Go
noncomputable abbrev P0 : Program := Go.Proofs.Tryz.prog
/-- What is known of the first memory. -/
def Kn0 (w0 : World) : Prop := w0.ShapedOpen P0 ∧ Lib.TabIs P0 w0 "internal/strconv.uint64pow10" .u64 Lib.pow10Tab ∧ (∃ tp p, w0.var? P0 "strconv.ErrSyntax" = some #[.iface tp p]) ∧ ∃ tp p, w0.var? P0 "strconv.ErrRange" = some #[.iface tp p]
noncomputable instance gi0 : GI := ⟨fun w R => ∃ w0 : World, Kn0 w0 ∧ ∀ b, b < w0.heap.size → R b ∧ w.heap[b]? = w0.heap[b]?, fun {w w' R R'} h hR hm => by
  obtain ⟨w0, h1, h2⟩ := h
  refine ⟨w0, h1, fun b hb => ⟨hR b (h2 b hb).1, ?_⟩⟩
  have e := (h2 b hb).2
  have hlt : b < w.heap.size := by
    rw [Array.getElem?_eq_getElem hb] at e
    exact (Array.getElem?_eq_some_iff.1 e).1
  rw [hm b (h2 b hb).1 hlt, e]⟩
theorem gi_start {W : World} (h : Kn0 W) : GI.p W fun b => b < W.heap.size := ⟨W, h, fun _ hb => ⟨hb, rfl⟩⟩
theorem gi_cell {w0 w : World} {R : Nat → Prop} (h : ∀ b, b < w0.heap.size → R b ∧ w.heap[b]? = w0.heap[b]?) {a : Addr} {v : Value} (hc : w0.cell? a = some v) : w.cell? a = some v := by
  rw [World.cell?_of_block (h _ (World.block_lt_of_cell? _ _ hc)).2]; exact hc
theorem gi_var {w0 w : World} {R : Nat → Prop} (h : ∀ b, b < w0.heap.size → R b ∧ w.heap[b]? = w0.heap[b]?) {n : String} {cs : Array Value} (hc : w0.var? P0 n = some cs) : w.var? P0 n = some cs := by
  unfold World.var? at hc ⊢
  cases hg : P0.globalNamed n with
  | none => rw [hg] at hc; cases hc
  | some g =>
    rw [hg] at hc
    simp only [Option.bind_some] at hc ⊢
    have hlt : g < w0.heap.size := by
      rcases Nat.lt_or_ge g w0.heap.size with h' | h'
      · exact h'
      · simp [Array.getElem?_eq_none h'] at hc
    rw [(h g hlt).2]; exact hc
theorem gi_tab {w : World} {R : Nat → Prop} (h : GI.p w R) : Lib.TabIs P0 w "internal/strconv.uint64pow10" .u64 Lib.pow10Tab := by
  obtain ⟨w0, ⟨_, h1, _⟩, h2⟩ := h
  exact gi_var h2 h1
theorem gi_syn {w : World} {R : Nat → Prop} (h : GI.p w R) : ∃ tp p, w.var? P0 "strconv.ErrSyntax" = some #[.iface tp p] := by
  obtain ⟨w0, ⟨_, _, ⟨tp, p, h1⟩, _⟩, h2⟩ := h
  exact ⟨tp, p, gi_var h2 h1⟩
theorem gi_ran {w : World} {R : Nat → Prop} (h : GI.p w R) : ∃ tp p, w.var? P0 "strconv.ErrRange" = some #[.iface tp p] := by
  obtain ⟨w0, ⟨_, _, _, tp, p, h1⟩, h2⟩ := h
  exact ⟨tp, p, gi_var h2 h1⟩
def td : TypeId → TD
  | 2 => .one (.int .i64 0)
  | 3 => .one (.int .i64 0)
  | 4 => .one (.bool false)
  | 5 => .one (.int .u8 0)
  | 6 => .one (.int .u8 0)
  | 7 => .st 4 [(0, 1, false), (1, 1, false), (2, 1, false), (3, 1, false)] [.int .i64 0, .int .i64 0, .bool false, .int .u8 0]
  | 8 => .st 4 [(0, 1, false), (1, 1, false), (2, 1, false), (3, 1, false)] [.int .i64 0, .int .i64 0, .bool false, .int .u8 0]
  | 9 => .one (.str [])
  | 10 => .one (.str [])
  | 11 => .one (.str [])
  | 12 => .one (.int .u64 0)
  | 13 => .st 2 [(0, 1, false), (1, 1, false)] [.str [], .int .u64 0]
  | 14 => .st 2 [(0, 1, false), (1, 1, false)] [.str [], .int .u64 0]
  | 15 => .one (.val (.pointer none))
  | 16 => .one (.val (.pointer none))
  | 17 => .one (.val (.pointer none))
  | 18 => .st 1 [(0, 1, false)] [.val (.pointer none)]
  | 19 => .st 1 [(0, 1, false)] [.val (.pointer none)]
  | 20 => .one (.val .nilIface)
  | 21 => .one (.int .i32 0)
  | 22 => .sl .node
  | 30 => .sl .int
  | 31 => .st 6 [(0, 1, false), (1, 1, false), (2, 1, false), (3, 1, false), (4, 1, false), (5, 1, false)] [.int .i64 0, .int .i64 0, .int .i64 0, .nilS, .str [], .str []]
  | 32 => .st 6 [(0, 1, false), (1, 1, false), (2, 1, false), (3, 1, false), (4, 1, false), (5, 1, false)] [.int .i64 0, .int .i64 0, .int .i64 0, .nilS, .str [], .str []]
  | 37 => .sl .node
  | 45 => .sl .attr
  | 46 => .st 6 [(0, 1, false), (1, 1, false), (2, 1, false), (3, 1, false), (4, 1, false), (5, 1, false)] [.int .i64 0, .int .i64 0, .str [], .str [], .nilS, .nilS]
  | 47 => .st 6 [(0, 1, false), (1, 1, false), (2, 1, false), (3, 1, false), (4, 1, false), (5, 1, false)] [.int .i64 0, .int .i64 0, .str [], .str [], .nilS, .nilS]
  | 55 => .sl .attr
  | 56 => .st 6 [(0, 1, false), (1, 1, false), (2, 1, false), (3, 1, false), (4, 1, false), (5, 1, false)] [.int .i64 0, .int .i64 0, .str [], .str [], .nilS, .nilS]
  | 57 => .st 6 [(0, 1, false), (1, 1, false), (2, 1, false), (3, 1, false), (4, 1, false), (5, 1, false)] [.int .i64 0, .int .i64 0, .str [], .str [], .nilS, .nilS]
  | 60 => .one (.val (.pointer none))
  | 61 => .sl .opn
  | 62 => .st 4 [(0, 1, false), (1, 1, false), (2, 1, false), (3, 1, false)] [.nilS, .nilS, .int .i64 0, .int .i64 0]
  | 63 => .st 4 [(0, 1, false), (1, 1, false), (2, 1, false), (3, 1, false)] [.nilS, .nilS, .int .i64 0, .int .i64 0]
  | 65 => .st 7 [(0, 1, false), (1, 1, false), (2, 1, false), (3, 1, false), (4, 1, false), (5, 1, false), (6, 1, false)] [.int .i64 0, .int .i64 0, .int .i64 0, .str [], .str [], .nilS, .bool false]
  | 66 => .st 7 [(0, 1, false), (1, 1, false), (2, 1, false), (3, 1, false), (4, 1, false), (5, 1, false), (6, 1, false)] [.int .i64 0, .int .i64 0, .int .i64 0, .str [], .str [], .nilS, .bool false]
  | 72 => .sl .str
  | 74 => .one (.val (.pointer none))
  | 75 => .sl .nodes
  | 76 => .st 3 [(0, 1, false), (1, 1, false), (2, 1, false)] [.nilS, .nilS, .int .i64 0]
  | 77 => .st 3 [(0, 1, false), (1, 1, false), (2, 1, false)] [.nilS, .nilS, .int .i64 0]
  | 80 => .sl .u8
  | 81 => .st 2 [(0, 1, false), (1, 1, false)] [.str [], .str []]
  | 82 => .st 2 [(0, 1, false), (1, 1, false)] [.str [], .str []]
  | 103 => .st 2 [(0, 1, false), (1, 1, false)] [.str [], .int .i64 0]
  | 104 => .st 2 [(0, 1, false), (1, 1, false)] [.str [], .int .i64 0]
  | 119 => .one (.val .nilIface)
  | 120 => .one (.val .nilIface)
  | 127 => .st 2 [(0, 1, false), (1, 1, false)] [.str [], .str []]
  | 132 => .one (.val (.pointer none))
  | 133 => .one (.val (.pointer none))
  | 134 => .st 2 [(0, 1, false), (1, 1, false)] [.val (.pointer none), .nilS]
  | 135 => .st 2 [(0, 1, false), (1, 1, false)] [.val (.pointer none), .nilS]
  | 160 => .one (.val (.pointer none))
  | 162 => .one (.val (.pointer none))
  | 170 => .one (.int .u64 0)
  | 171 => .one (.int .i64 0)
  | 174 => .one (.val (.pointer none))
  | 186 => .one (.int .u32 0)
  | 189 => .st 2 [(0, 1, false), (1, 1, false)] [.int .i32 0, .int .u32 0]
  | 190 => .st 2 [(0, 1, false), (1, 1, false)] [.int .i32 0, .int .u32 0]
  | 195 => .one (.val .nilIface)
  | 196 => .one (.val .nilIface)
  | 205 => .one (.int .u64 0)
  | 219 => .one (.val (.pointer none))
  | 223 => .one (.val (.pointer none))
  | 224 => .st 1 [(0, 1, false)] [.str []]
  | 225 => .st 1 [(0, 1, false)] [.str []]
  | 231 => .one (.val (.pointer none))
  | 233 => .one (.val (.pointer none))
  | 235 => .one (.val (.pointer none))
  | 237 => .one (.val (.pointer none))
  | 241 => .one (.val (.pointer none))
  | 245 => .one (.val (.pointer none))
  | 247 => .st 2 [(0, 1, false), (1, 1, false)] [.int .u8 0, .int .u8 0]
  | 248 => .st 2 [(0, 1, false), (1, 1, false)] [.int .u8 0, .int .u8 0]
  | 250 => .one (.val (.pointer none))
  | 253 => .one (.val (.pointer none))
  | 255 => .st 2 [(0, 1, false), (1, 1, false)] [.val (.pointer none), .str []]
  | 256 => .st 2 [(0, 1, false), (1, 1, false)] [.val (.pointer none), .str []]
  | 257 => .one (.val (.pointer none))
  | 259 => .st 5 [(0, 1, false), (1, 1, false), (2, 1, false), (3, 1, false), (4, 1, false)] [.str [], .int .i64 0, .str [], .val (.pointer none), .nilS]
  | 260 => .st 5 [(0, 1, false), (1, 1, false), (2, 1, false), (3, 1, false), (4, 1, false)] [.str [], .int .i64 0, .str [], .val (.pointer none), .nilS]
  | 266 => .one (.val (.pointer none))
  | 268 => .one (.val (.pointer none))
  | 277 => .st 4 [(0, 1, false), (1, 1, false), (2, 1, false), (3, 1, false)] [.val (.pointer none), .val (.pointer none), .val (.pointer none), .str []]
  | 278 => .st 4 [(0, 1, false), (1, 1, false), (2, 1, false), (3, 1, false)] [.val (.pointer none), .val (.pointer none), .val (.pointer none), .str []]
  | 283 => .one (.int .u8 0)
  | 284 => .one (.int .u8 0)
  | 286 => .one (.int .i32 0)
  | 287 => .one (.int .i32 0)
  | 288 => .st 11 [(0, 1, false), (1, 1, false), (2, 1, false), (3, 1, false), (4, 1, false), (5, 1, false), (6, 1, false), (7, 1, false), (8, 1, false), (9, 1, false), (10, 1, false)] [.int .u64 0, .int .u64 0, .int .u32 0, .int .u8 0, .int .u8 0, .int .u8 0, .int .u8 0, .val .nilFunc, .val (.pointer none), .int .i32 0, .int .i32 0]
  | 289 => .st 11 [(0, 1, false), (1, 1, false), (2, 1, false), (3, 1, false), (4, 1, false), (5, 1, false), (6, 1, false), (7, 1, false), (8, 1, false), (9, 1, false), (10, 1, false)] [.int .u64 0, .int .u64 0, .int .u32 0, .int .u8 0, .int .u8 0, .int .u8 0, .int .u8 0, .val .nilFunc, .val (.pointer none), .int .i32 0, .int .i32 0]
  | 291 => .sl .u8
  | 292 => .one (.val (.pointer none))
  | 293 => .one (.val .nilIface)
  | 294 => .one (.val .nilIface)
  | 295 => .one (.val .nilIface)
  | 296 => .one (.val .nilIface)
  | _ => .unk
@[push_cast] theorem td_2 : td 2 = .one (.int .i64 0) := rfl
@[push_cast] theorem td_3 : td 3 = .one (.int .i64 0) := rfl
@[push_cast] theorem td_4 : td 4 = .one (.bool false) := rfl
@[push_cast] theorem td_5 : td 5 = .one (.int .u8 0) := rfl
@[push_cast] theorem td_6 : td 6 = .one (.int .u8 0) := rfl
@[push_cast] theorem td_7 : td 7 = .st 4 [(0, 1, false), (1, 1, false), (2, 1, false), (3, 1, false)] [.int .i64 0, .int .i64 0, .bool false, .int .u8 0] := rfl
@[push_cast] theorem td_8 : td 8 = .st 4 [(0, 1, false), (1, 1, false), (2, 1, false), (3, 1, false)] [.int .i64 0, .int .i64 0, .bool false, .int .u8 0] := rfl
@[push_cast] theorem td_9 : td 9 = .one (.str []) := rfl
@[push_cast] theorem td_10 : td 10 = .one (.str []) := rfl
@[push_cast] theorem td_11 : td 11 = .one (.str []) := rfl
@[push_cast] theorem td_12 : td 12 = .one (.int .u64 0) := rfl
@[push_cast] theorem td_13 : td 13 = .st 2 [(0, 1, false), (1, 1, false)] [.str [], .int .u64 0] := rfl
@[push_cast] theorem td_14 : td 14 = .st 2 [(0, 1, false), (1, 1, false)] [.str [], .int .u64 0] := rfl
@[push_cast] theorem td_15 : td 15 = .one (.val (.pointer none)) := rfl
@[push_cast] theorem td_16 : td 16 = .one (.val (.pointer none)) := rfl
@[push_cast] theorem td_17 : td 17 = .one (.val (.pointer none)) := rfl
@[push_cast] theorem td_18 : td 18 = .st 1 [(0, 1, false)] [.val (.pointer none)] := rfl
@[push_cast] theorem td_19 : td 19 = .st 1 [(0, 1, false)] [.val (.pointer none)] := rfl
@[push_cast] theorem td_20 : td 20 = .one (.val .nilIface) := rfl
@[push_cast] theorem td_21 : td 21 = .one (.int .i32 0) := rfl
@[push_cast] theorem td_22 : td 22 = .sl .node := rfl
@[push_cast] theorem td_30 : td 30 = .sl .int := rfl
@[push_cast] theorem td_31 : td 31 = .st 6 [(0, 1, false), (1, 1, false), (2, 1, false), (3, 1, false), (4, 1, false), (5, 1, false)] [.int .i64 0, .int .i64 0, .int .i64 0, .nilS, .str [], .str []] := rfl
@[push_cast] theorem td_32 : td 32 = .st 6 [(0, 1, false), (1, 1, false), (2, 1, false), (3, 1, false), (4, 1, false), (5, 1, false)] [.int .i64 0, .int .i64 0, .int .i64 0, .nilS, .str [], .str []] := rfl
@[push_cast] theorem td_37 : td 37 = .sl .node := rfl
@[push_cast] theorem td_45 : td 45 = .sl .attr := rfl
@[push_cast] theorem td_46 : td 46 = .st 6 [(0, 1, false), (1, 1, false), (2, 1, false), (3, 1, false), (4, 1, false), (5, 1, false)] [.int .i64 0, .int .i64 0, .str [], .str [], .nilS, .nilS] := rfl
@[push_cast] theorem td_47 : td 47 = .st 6 [(0, 1, false), (1, 1, false), (2, 1, false), (3, 1, false), (4, 1, false), (5, 1, false)] [.int .i64 0, .int .i64 0, .str [], .str [], .nilS, .nilS] := rfl
@[push_cast] theorem td_55 : td 55 = .sl .attr := rfl
@[push_cast] theorem td_56 : td 56 = .st 6 [(0, 1, false), (1, 1, false), (2, 1, false), (3, 1, false), (4, 1, false), (5, 1, false)] [.int .i64 0, .int .i64 0, .str [], .str [], .nilS, .nilS] := rfl
@[push_cast] theorem td_57 : td 57 = .st 6 [(0, 1, false), (1, 1, false), (2, 1, false), (3, 1, false), (4, 1, false), (5, 1, false)] [.int .i64 0, .int .i64 0, .str [], .str [], .nilS, .nilS] := rfl
@[push_cast] theorem td_60 : td 60 = .one (.val (.pointer none)) := rfl
@[push_cast] theorem td_61 : td 61 = .sl .opn := rfl
@[push_cast] theorem td_62 : td 62 = .st 4 [(0, 1, false), (1, 1, false), (2, 1, false), (3, 1, false)] [.nilS, .nilS, .int .i64 0, .int .i64 0] := rfl
@[push_cast] theorem td_63 : td 63 = .st 4 [(0, 1, false), (1, 1, false), (2, 1, false), (3, 1, false)] [.nilS, .nilS, .int .i64 0, .int .i64 0] := rfl
@[push_cast] theorem td_65 : td 65 = .st 7 [(0, 1, false), (1, 1, false), (2, 1, false), (3, 1, false), (4, 1, false), (5, 1, false), (6, 1, false)] [.int .i64 0, .int .i64 0, .int .i64 0, .str [], .str [], .nilS, .bool false] := rfl
@[push_cast] theorem td_66 : td 66 = .st 7 [(0, 1, false), (1, 1, false), (2, 1, false), (3, 1, false), (4, 1, false), (5, 1, false), (6, 1, false)] [.int .i64 0, .int .i64 0, .int .i64 0, .str [], .str [], .nilS, .bool false] := rfl
@[push_cast] theorem td_72 : td 72 = .sl .str := rfl
@[push_cast] theorem td_74 : td 74 = .one (.val (.pointer none)) := rfl
@[push_cast] theorem td_75 : td 75 = .sl .nodes := rfl
@[push_cast] theorem td_76 : td 76 = .st 3 [(0, 1, false), (1, 1, false), (2, 1, false)] [.nilS, .nilS, .int .i64 0] := rfl
@[push_cast] theorem td_77 : td 77 = .st 3 [(0, 1, false), (1, 1, false), (2, 1, false)] [.nilS, .nilS, .int .i64 0] := rfl
@[push_cast] theorem td_80 : td 80 = .sl .u8 := rfl
@[push_cast] theorem td_81 : td 81 = .st 2 [(0, 1, false), (1, 1, false)] [.str [], .str []] := rfl
@[push_cast] theorem td_82 : td 82 = .st 2 [(0, 1, false), (1, 1, false)] [.str [], .str []] := rfl
@[push_cast] theorem td_103 : td 103 = .st 2 [(0, 1, false), (1, 1, false)] [.str [], .int .i64 0] := rfl
@[push_cast] theorem td_104 : td 104 = .st 2 [(0, 1, false), (1, 1, false)] [.str [], .int .i64 0] := rfl
@[push_cast] theorem td_119 : td 119 = .one (.val .nilIface) := rfl
@[push_cast] theorem td_120 : td 120 = .one (.val .nilIface) := rfl
@[push_cast] theorem td_127 : td 127 = .st 2 [(0, 1, false), (1, 1, false)] [.str [], .str []] := rfl
@[push_cast] theorem td_132 : td 132 = .one (.val (.pointer none)) := rfl
@[push_cast] theorem td_133 : td 133 = .one (.val (.pointer none)) := rfl
@[push_cast] theorem td_134 : td 134 = .st 2 [(0, 1, false), (1, 1, false)] [.val (.pointer none), .nilS] := rfl
@[push_cast] theorem td_135 : td 135 = .st 2 [(0, 1, false), (1, 1, false)] [.val (.pointer none), .nilS] := rfl
@[push_cast] theorem td_160 : td 160 = .one (.val (.pointer none)) := rfl
@[push_cast] theorem td_162 : td 162 = .one (.val (.pointer none)) := rfl
@[push_cast] theorem td_170 : td 170 = .one (.int .u64 0) := rfl
@[push_cast] theorem td_171 : td 171 = .one (.int .i64 0) := rfl
@[push_cast] theorem td_174 : td 174 = .one (.val (.pointer none)) := rfl
@[push_cast] theorem td_186 : td 186 = .one (.int .u32 0) := rfl
@[push_cast] theorem td_189 : td 189 = .st 2 [(0, 1, false), (1, 1, false)] [.int .i32 0, .int .u32 0] := rfl
@[push_cast] theorem td_190 : td 190 = .st 2 [(0, 1, false), (1, 1, false)] [.int .i32 0, .int .u32 0] := rfl
@[push_cast] theorem td_195 : td 195 = .one (.val .nilIface) := rfl
@[push_cast] theorem td_196 : td 196 = .one (.val .nilIface) := rfl
@[push_cast] theorem td_205 : td 205 = .one (.int .u64 0) := rfl
@[push_cast] theorem td_219 : td 219 = .one (.val (.pointer none)) := rfl
@[push_cast] theorem td_223 : td 223 = .one (.val (.pointer none)) := rfl
@[push_cast] theorem td_224 : td 224 = .st 1 [(0, 1, false)] [.str []] := rfl
@[push_cast] theorem td_225 : td 225 = .st 1 [(0, 1, false)] [.str []] := rfl
@[push_cast] theorem td_231 : td 231 = .one (.val (.pointer none)) := rfl
@[push_cast] theorem td_233 : td 233 = .one (.val (.pointer none)) := rfl
@[push_cast] theorem td_235 : td 235 = .one (.val (.pointer none)) := rfl
@[push_cast] theorem td_237 : td 237 = .one (.val (.pointer none)) := rfl
@[push_cast] theorem td_241 : td 241 = .one (.val (.pointer none)) := rfl
@[push_cast] theorem td_245 : td 245 = .one (.val (.pointer none)) := rfl
@[push_cast] theorem td_247 : td 247 = .st 2 [(0, 1, false), (1, 1, false)] [.int .u8 0, .int .u8 0] := rfl
@[push_cast] theorem td_248 : td 248 = .st 2 [(0, 1, false), (1, 1, false)] [.int .u8 0, .int .u8 0] := rfl
@[push_cast] theorem td_250 : td 250 = .one (.val (.pointer none)) := rfl
@[push_cast] theorem td_253 : td 253 = .one (.val (.pointer none)) := rfl
@[push_cast] theorem td_255 : td 255 = .st 2 [(0, 1, false), (1, 1, false)] [.val (.pointer none), .str []] := rfl
@[push_cast] theorem td_256 : td 256 = .st 2 [(0, 1, false), (1, 1, false)] [.val (.pointer none), .str []] := rfl
@[push_cast] theorem td_257 : td 257 = .one (.val (.pointer none)) := rfl
@[push_cast] theorem td_259 : td 259 = .st 5 [(0, 1, false), (1, 1, false), (2, 1, false), (3, 1, false), (4, 1, false)] [.str [], .int .i64 0, .str [], .val (.pointer none), .nilS] := rfl
@[push_cast] theorem td_260 : td 260 = .st 5 [(0, 1, false), (1, 1, false), (2, 1, false), (3, 1, false), (4, 1, false)] [.str [], .int .i64 0, .str [], .val (.pointer none), .nilS] := rfl
@[push_cast] theorem td_266 : td 266 = .one (.val (.pointer none)) := rfl
@[push_cast] theorem td_268 : td 268 = .one (.val (.pointer none)) := rfl
@[push_cast] theorem td_277 : td 277 = .st 4 [(0, 1, false), (1, 1, false), (2, 1, false), (3, 1, false)] [.val (.pointer none), .val (.pointer none), .val (.pointer none), .str []] := rfl
@[push_cast] theorem td_278 : td 278 = .st 4 [(0, 1, false), (1, 1, false), (2, 1, false), (3, 1, false)] [.val (.pointer none), .val (.pointer none), .val (.pointer none), .str []] := rfl
@[push_cast] theorem td_283 : td 283 = .one (.int .u8 0) := rfl
@[push_cast] theorem td_284 : td 284 = .one (.int .u8 0) := rfl
@[push_cast] theorem td_286 : td 286 = .one (.int .i32 0) := rfl
@[push_cast] theorem td_287 : td 287 = .one (.int .i32 0) := rfl
@[push_cast] theorem td_288 : td 288 = .st 11 [(0, 1, false), (1, 1, false), (2, 1, false), (3, 1, false), (4, 1, false), (5, 1, false), (6, 1, false), (7, 1, false), (8, 1, false), (9, 1, false), (10, 1, false)] [.int .u64 0, .int .u64 0, .int .u32 0, .int .u8 0, .int .u8 0, .int .u8 0, .int .u8 0, .val .nilFunc, .val (.pointer none), .int .i32 0, .int .i32 0] := rfl
@[push_cast] theorem td_289 : td 289 = .st 11 [(0, 1, false), (1, 1, false), (2, 1, false), (3, 1, false), (4, 1, false), (5, 1, false), (6, 1, false), (7, 1, false), (8, 1, false), (9, 1, false), (10, 1, false)] [.int .u64 0, .int .u64 0, .int .u32 0, .int .u8 0, .int .u8 0, .int .u8 0, .int .u8 0, .val .nilFunc, .val (.pointer none), .int .i32 0, .int .i32 0] := rfl
@[push_cast] theorem td_291 : td 291 = .sl .u8 := rfl
@[push_cast] theorem td_292 : td 292 = .one (.val (.pointer none)) := rfl
@[push_cast] theorem td_293 : td 293 = .one (.val .nilIface) := rfl
@[push_cast] theorem td_294 : td 294 = .one (.val .nilIface) := rfl
@[push_cast] theorem td_295 : td 295 = .one (.val .nilIface) := rfl
@[push_cast] theorem td_296 : td 296 = .one (.val .nilIface) := rfl
theorem tdok_2 (E : Env) : TDok P0 E 2 (.one (.int .i64 0)) := ⟨.int .i64, .int .i64 0, by kernel_rfl, by kernel_rfl, rfl, rfl, rfl⟩
theorem tdok_3 (E : Env) : TDok P0 E 3 (.one (.int .i64 0)) := ⟨.int .i64, .int .i64 0, by kernel_rfl, by kernel_rfl, rfl, rfl, rfl⟩
theorem tdok_4 (E : Env) : TDok P0 E 4 (.one (.bool false)) := ⟨.bool, .bool false, by kernel_rfl, by kernel_rfl, rfl, rfl, rfl⟩
theorem tdok_5 (E : Env) : TDok P0 E 5 (.one (.int .u8 0)) := ⟨.int .u8, .int .u8 0, by kernel_rfl, by kernel_rfl, rfl, rfl, rfl⟩
theorem tdok_6 (E : Env) : TDok P0 E 6 (.one (.int .u8 0)) := ⟨.int .u8, .int .u8 0, by kernel_rfl, by kernel_rfl, rfl, rfl, rfl⟩
theorem tdok_7 (E : Env) : TDok P0 E 7 (.st 4 [(0, 1, false), (1, 1, false), (2, 1, false), (3, 1, false)] [.int .i64 0, .int .i64 0, .bool false, .int .u8 0]) := ⟨#[.int .i64 0, .int .i64 0, .bool false, .int .u8 0], by kernel_rfl, by kernel_rfl, rfl, rfl⟩
theorem tdok_8 (E : Env) : TDok P0 E 8 (.st 4 [(0, 1, false), (1, 1, false), (2, 1, false), (3, 1, false)] [.int .i64 0, .int .i64 0, .bool false, .int .u8 0]) := ⟨#[.int .i64 0, .int .i64 0, .bool false, .int .u8 0], by kernel_rfl, by kernel_rfl, rfl, rfl⟩
theorem tdok_9 (E : Env) : TDok P0 E 9 (.one (.str [])) := ⟨.string, .string ⟨#[]⟩, by kernel_rfl, by kernel_rfl, rfl, rfl, rfl⟩
theorem tdok_10 (E : Env) : TDok P0 E 10 (.one (.str [])) := ⟨.string, .string ⟨#[]⟩, by kernel_rfl, by kernel_rfl, rfl, rfl, rfl⟩
theorem tdok_11 (E : Env) : TDok P0 E 11 (.one (.str [])) := ⟨.string, .string ⟨#[]⟩, by kernel_rfl, by kernel_rfl, rfl, rfl, rfl⟩
theorem tdok_12 (E : Env) : TDok P0 E 12 (.one (.int .u64 0)) := ⟨.int .u64, .int .u64 0, by kernel_rfl, by kernel_rfl, rfl, rfl, rfl⟩
theorem tdok_13 (E : Env) : TDok P0 E 13 (.st 2 [(0, 1, false), (1, 1, false)] [.str [], .int .u64 0]) := ⟨#[.string ⟨#[]⟩, .int .u64 0], by kernel_rfl, by kernel_rfl, rfl, rfl⟩
theorem tdok_14 (E : Env) : TDok P0 E 14 (.st 2 [(0, 1, false), (1, 1, false)] [.str [], .int .u64 0]) := ⟨#[.string ⟨#[]⟩, .int .u64 0], by kernel_rfl, by kernel_rfl, rfl, rfl⟩
theorem tdok_15 (E : Env) : TDok P0 E 15 (.one (.val (.pointer none))) := ⟨.pointer 278, .pointer none, by kernel_rfl, by kernel_rfl, rfl, rfl, ⟨_, rfl⟩⟩
theorem tdok_16 (E : Env) : TDok P0 E 16 (.one (.val (.pointer none))) := ⟨.pointer 281, .pointer none, by kernel_rfl, by kernel_rfl, rfl, rfl, ⟨_, rfl⟩⟩
theorem tdok_17 (E : Env) : TDok P0 E 17 (.one (.val (.pointer none))) := ⟨.pointer 289, .pointer none, by kernel_rfl, by kernel_rfl, rfl, rfl, ⟨_, rfl⟩⟩
theorem tdok_18 (E : Env) : TDok P0 E 18 (.st 1 [(0, 1, false)] [.val (.pointer none)]) := ⟨#[.pointer none], by kernel_rfl, by kernel_rfl, rfl, rfl⟩
theorem tdok_19 (E : Env) : TDok P0 E 19 (.st 1 [(0, 1, false)] [.val (.pointer none)]) := ⟨#[.pointer none], by kernel_rfl, by kernel_rfl, rfl, rfl⟩
theorem tdok_20 (E : Env) : TDok P0 E 20 (.one (.val .nilIface)) := ⟨.interface #[], .nilIface, by kernel_rfl, by kernel_rfl, rfl, rfl, ⟨_, rfl⟩⟩
theorem tdok_21 (E : Env) : TDok P0 E 21 (.one (.int .i32 0)) := ⟨.int .i32, .int .i32 0, by kernel_rfl, by kernel_rfl, rfl, rfl, rfl⟩
theorem tdok_22 (E : Env) : TDok P0 E 22 (.sl .node) := ⟨47, by kernel_rfl, by kernel_rfl, by kernel_rfl, (fun h => by cases h), .agg #[.int .i64 0, .int .i64 0, .string ⟨#[]⟩, .string ⟨#[]⟩, .slice none 0 0, .slice none 0 0], 96, by kernel_rfl, by decide, by decide, rfl⟩
theorem tdok_30 (E : Env) : TDok P0 E 30 (.sl .int) := ⟨3, by kernel_rfl, by kernel_rfl, by kernel_rfl, (fun h => by cases h), .int .i64 0, 8, by kernel_rfl, by decide, by decide, rfl⟩
theorem tdok_31 (E : Env) : TDok P0 E 31 (.st 6 [(0, 1, false), (1, 1, false), (2, 1, false), (3, 1, false), (4, 1, false), (5, 1, false)] [.int .i64 0, .int .i64 0, .int .i64 0, .nilS, .str [], .str []]) := ⟨#[.int .i64 0, .int .i64 0, .int .i64 0, .slice none 0 0, .string ⟨#[]⟩, .string ⟨#[]⟩], by kernel_rfl, by kernel_rfl, rfl, rfl⟩
theorem tdok_32 (E : Env) : TDok P0 E 32 (.st 6 [(0, 1, false), (1, 1, false), (2, 1, false), (3, 1, false), (4, 1, false), (5, 1, false)] [.int .i64 0, .int .i64 0, .int .i64 0, .nilS, .str [], .str []]) := ⟨#[.int .i64 0, .int .i64 0, .int .i64 0, .slice none 0 0, .string ⟨#[]⟩, .string ⟨#[]⟩], by kernel_rfl, by kernel_rfl, rfl, rfl⟩
theorem tdok_37 (E : Env) : TDok P0 E 37 (.sl .node) := ⟨57, by kernel_rfl, by kernel_rfl, by kernel_rfl, (fun h => by cases h), .agg #[.int .i64 0, .int .i64 0, .string ⟨#[]⟩, .string ⟨#[]⟩, .slice none 0 0, .slice none 0 0], 96, by kernel_rfl, by decide, by decide, rfl⟩
theorem tdok_45 (E : Env) : TDok P0 E 45 (.sl .attr) := ⟨82, by kernel_rfl, by kernel_rfl, by kernel_rfl, (fun h => by cases h), .agg #[.string ⟨#[]⟩, .string ⟨#[]⟩], 32, by kernel_rfl, by decide, by decide, rfl⟩
theorem tdok_46 (E : Env) : TDok P0 E 46 (.st 6 [(0, 1, false), (1, 1, false), (2, 1, false), (3, 1, false), (4, 1, false), (5, 1, false)] [.int .i64 0, .int .i64 0, .str [], .str [], .nilS, .nilS]) := ⟨#[.int .i64 0, .int .i64 0, .string ⟨#[]⟩, .string ⟨#[]⟩, .slice none 0 0, .slice none 0 0], by kernel_rfl, by kernel_rfl, rfl, rfl⟩
theorem tdok_47 (E : Env) : TDok P0 E 47 (.st 6 [(0, 1, false), (1, 1, false), (2, 1, false), (3, 1, false), (4, 1, false), (5, 1, false)] [.int .i64 0, .int .i64 0, .str [], .str [], .nilS, .nilS]) := ⟨#[.int .i64 0, .int .i64 0, .string ⟨#[]⟩, .string ⟨#[]⟩, .slice none 0 0, .slice none 0 0], by kernel_rfl, by kernel_rfl, rfl, rfl⟩
theorem tdok_55 (E : Env) : TDok P0 E 55 (.sl .attr) := ⟨127, by kernel_rfl, by kernel_rfl, by kernel_rfl, (fun h => by cases h), .agg #[.string ⟨#[]⟩, .string ⟨#[]⟩], 32, by kernel_rfl, by decide, by decide, rfl⟩
theorem tdok_56 (E : Env) : TDok P0 E 56 (.st 6 [(0, 1, false), (1, 1, false), (2, 1, false), (3, 1, false), (4, 1, false), (5, 1, false)] [.int .i64 0, .int .i64 0, .str [], .str [], .nilS, .nilS]) := ⟨#[.int .i64 0, .int .i64 0, .string ⟨#[]⟩, .string ⟨#[]⟩, .slice none 0 0, .slice none 0 0], by kernel_rfl, by kernel_rfl, rfl, rfl⟩
theorem tdok_57 (E : Env) : TDok P0 E 57 (.st 6 [(0, 1, false), (1, 1, false), (2, 1, false), (3, 1, false), (4, 1, false), (5, 1, false)] [.int .i64 0, .int .i64 0, .str [], .str [], .nilS, .nilS]) := ⟨#[.int .i64 0, .int .i64 0, .string ⟨#[]⟩, .string ⟨#[]⟩, .slice none 0 0, .slice none 0 0], by kernel_rfl, by kernel_rfl, rfl, rfl⟩
theorem tdok_60 (E : Env) : TDok P0 E 60 (.one (.val (.pointer none))) := ⟨.pointer 63, .pointer none, by kernel_rfl, by kernel_rfl, rfl, rfl, ⟨_, rfl⟩⟩
theorem tdok_61 (E : Env) : TDok P0 E 61 (.sl .opn) := ⟨104, by kernel_rfl, by kernel_rfl, by kernel_rfl, (fun h => by cases h), .agg #[.string ⟨#[]⟩, .int .i64 0], 24, by kernel_rfl, by decide, by decide, rfl⟩
theorem tdok_62 (E : Env) : TDok P0 E 62 (.st 4 [(0, 1, false), (1, 1, false), (2, 1, false), (3, 1, false)] [.nilS, .nilS, .int .i64 0, .int .i64 0]) := ⟨#[.slice none 0 0, .slice none 0 0, .int .i64 0, .int .i64 0], by kernel_rfl, by kernel_rfl, rfl, rfl⟩
theorem tdok_63 (E : Env) : TDok P0 E 63 (.st 4 [(0, 1, false), (1, 1, false), (2, 1, false), (3, 1, false)] [.nilS, .nilS, .int .i64 0, .int .i64 0]) := ⟨#[.slice none 0 0, .slice none 0 0, .int .i64 0, .int .i64 0], by kernel_rfl, by kernel_rfl, rfl, rfl⟩
theorem tdok_65 (E : Env) : TDok P0 E 65 (.st 7 [(0, 1, false), (1, 1, false), (2, 1, false), (3, 1, false), (4, 1, false), (5, 1, false), (6, 1, false)] [.int .i64 0, .int .i64 0, .int .i64 0, .str [], .str [], .nilS, .bool false]) := ⟨#[.int .i64 0, .int .i64 0, .int .i64 0, .string ⟨#[]⟩, .string ⟨#[]⟩, .slice none 0 0, .bool false], by kernel_rfl, by kernel_rfl, rfl, rfl⟩
theorem tdok_66 (E : Env) : TDok P0 E 66 (.st 7 [(0, 1, false), (1, 1, false), (2, 1, false), (3, 1, false), (4, 1, false), (5, 1, false), (6, 1, false)] [.int .i64 0, .int .i64 0, .int .i64 0, .str [], .str [], .nilS, .bool false]) := ⟨#[.int .i64 0, .int .i64 0, .int .i64 0, .string ⟨#[]⟩, .string ⟨#[]⟩, .slice none 0 0, .bool false], by kernel_rfl, by kernel_rfl, rfl, rfl⟩
theorem tdok_72 (E : Env) : TDok P0 E 72 (.sl .str) := ⟨9, by kernel_rfl, by kernel_rfl, by kernel_rfl, (fun h => by cases h), .string ⟨#[]⟩, 16, by kernel_rfl, by decide, by decide, rfl⟩
theorem tdok_74 (E : Env) : TDok P0 E 74 (.one (.val (.pointer none))) := ⟨.pointer 77, .pointer none, by kernel_rfl, by kernel_rfl, rfl, rfl, ⟨_, rfl⟩⟩
theorem tdok_75 (E : Env) : TDok P0 E 75 (.sl .nodes) := ⟨22, by kernel_rfl, by kernel_rfl, by kernel_rfl, (fun h => by cases h), .slice none 0 0, 24, by kernel_rfl, by decide, by decide, rfl⟩
theorem tdok_76 (E : Env) : TDok P0 E 76 (.st 3 [(0, 1, false), (1, 1, false), (2, 1, false)] [.nilS, .nilS, .int .i64 0]) := ⟨#[.slice none 0 0, .slice none 0 0, .int .i64 0], by kernel_rfl, by kernel_rfl, rfl, rfl⟩
theorem tdok_77 (E : Env) : TDok P0 E 77 (.st 3 [(0, 1, false), (1, 1, false), (2, 1, false)] [.nilS, .nilS, .int .i64 0]) := ⟨#[.slice none 0 0, .slice none 0 0, .int .i64 0], by kernel_rfl, by kernel_rfl, rfl, rfl⟩
theorem tdok_80 (E : Env) : TDok P0 E 80 (.sl .u8) := ⟨5, by kernel_rfl, by kernel_rfl, by kernel_rfl, (fun _ => by kernel_rfl), .int .u8 0, 1, by kernel_rfl, by decide, by decide, rfl⟩
theorem tdok_81 (E : Env) : TDok P0 E 81 (.st 2 [(0, 1, false), (1, 1, false)] [.str [], .str []]) := ⟨#[.string ⟨#[]⟩, .string ⟨#[]⟩], by kernel_rfl, by kernel_rfl, rfl, rfl⟩
theorem tdok_82 (E : Env) : TDok P0 E 82 (.st 2 [(0, 1, false), (1, 1, false)] [.str [], .str []]) := ⟨#[.string ⟨#[]⟩, .string ⟨#[]⟩], by kernel_rfl, by kernel_rfl, rfl, rfl⟩
theorem tdok_103 (E : Env) : TDok P0 E 103 (.st 2 [(0, 1, false), (1, 1, false)] [.str [], .int .i64 0]) := ⟨#[.string ⟨#[]⟩, .int .i64 0], by kernel_rfl, by kernel_rfl, rfl, rfl⟩
theorem tdok_104 (E : Env) : TDok P0 E 104 (.st 2 [(0, 1, false), (1, 1, false)] [.str [], .int .i64 0]) := ⟨#[.string ⟨#[]⟩, .int .i64 0], by kernel_rfl, by kernel_rfl, rfl, rfl⟩
theorem tdok_119 (E : Env) : TDok P0 E 119 (.one (.val .nilIface)) := ⟨.interface #[("Error", 64)], .nilIface, by kernel_rfl, by kernel_rfl, rfl, rfl, ⟨_, rfl⟩⟩
theorem tdok_120 (E : Env) : TDok P0 E 120 (.one (.val .nilIface)) := ⟨.interface #[("Error", 64)], .nilIface, by kernel_rfl, by kernel_rfl, rfl, rfl, ⟨_, rfl⟩⟩
theorem tdok_127 (E : Env) : TDok P0 E 127 (.st 2 [(0, 1, false), (1, 1, false)] [.str [], .str []]) := ⟨#[.string ⟨#[]⟩, .string ⟨#[]⟩], by kernel_rfl, by kernel_rfl, rfl, rfl⟩
theorem tdok_132 (E : Env) : TDok P0 E 132 (.one (.val (.pointer none))) := ⟨.pointer 3, .pointer none, by kernel_rfl, by kernel_rfl, rfl, rfl, ⟨_, rfl⟩⟩
theorem tdok_133 (E : Env) : TDok P0 E 133 (.one (.val (.pointer none))) := ⟨.pointer 135, .pointer none, by kernel_rfl, by kernel_rfl, rfl, rfl, ⟨_, rfl⟩⟩
theorem tdok_134 (E : Env) : TDok P0 E 134 (.st 2 [(0, 1, false), (1, 1, false)] [.val (.pointer none), .nilS]) := ⟨#[.pointer none, .slice none 0 0], by kernel_rfl, by kernel_rfl, rfl, rfl⟩
theorem tdok_135 (E : Env) : TDok P0 E 135 (.st 2 [(0, 1, false), (1, 1, false)] [.val (.pointer none), .nilS]) := ⟨#[.pointer none, .slice none 0 0], by kernel_rfl, by kernel_rfl, rfl, rfl⟩
theorem tdok_160 (E : Env) : TDok P0 E 160 (.one (.val (.pointer none))) := ⟨.pointer 198, .pointer none, by kernel_rfl, by kernel_rfl, rfl, rfl, ⟨_, rfl⟩⟩
theorem tdok_162 (E : Env) : TDok P0 E 162 (.one (.val (.pointer none))) := ⟨.pointer 5, .pointer none, by kernel_rfl, by kernel_rfl, rfl, rfl, ⟨_, rfl⟩⟩
theorem tdok_170 (E : Env) : TDok P0 E 170 (.one (.int .u64 0)) := ⟨.int .u64, .int .u64 0, by kernel_rfl, by kernel_rfl, rfl, rfl, rfl⟩
theorem tdok_171 (E : Env) : TDok P0 E 171 (.one (.int .i64 0)) := ⟨.int .i64, .int .i64 0, by kernel_rfl, by kernel_rfl, rfl, rfl, rfl⟩
theorem tdok_174 (E : Env) : TDok P0 E 174 (.one (.val (.pointer none))) := ⟨.pointer 209, .pointer none, by kernel_rfl, by kernel_rfl, rfl, rfl, ⟨_, rfl⟩⟩
theorem tdok_186 (E : Env) : TDok P0 E 186 (.one (.int .u32 0)) := ⟨.int .u32, .int .u32 0, by kernel_rfl, by kernel_rfl, rfl, rfl, rfl⟩
theorem tdok_189 (E : Env) : TDok P0 E 189 (.st 2 [(0, 1, false), (1, 1, false)] [.int .i32 0, .int .u32 0]) := ⟨#[.int .i32 0, .int .u32 0], by kernel_rfl, by kernel_rfl, rfl, rfl⟩
theorem tdok_190 (E : Env) : TDok P0 E 190 (.st 2 [(0, 1, false), (1, 1, false)] [.int .i32 0, .int .u32 0]) := ⟨#[.int .i32 0, .int .u32 0], by kernel_rfl, by kernel_rfl, rfl, rfl⟩
theorem tdok_195 (E : Env) : TDok P0 E 195 (.one (.val .nilIface)) := ⟨.interface #[("Replace", 110), ("WriteString", 290)], .nilIface, by kernel_rfl, by kernel_rfl, rfl, rfl, ⟨_, rfl⟩⟩
theorem tdok_196 (E : Env) : TDok P0 E 196 (.one (.val .nilIface)) := ⟨.interface #[("Replace", 110), ("WriteString", 290)], .nilIface, by kernel_rfl, by kernel_rfl, rfl, rfl, ⟨_, rfl⟩⟩
theorem tdok_205 (E : Env) : TDok P0 E 205 (.one (.int .u64 0)) := ⟨.int .u64, .int .u64 0, by kernel_rfl, by kernel_rfl, rfl, rfl, rfl⟩
theorem tdok_219 (E : Env) : TDok P0 E 219 (.one (.val (.pointer none))) := ⟨.pointer 194, .pointer none, by kernel_rfl, by kernel_rfl, rfl, rfl, ⟨_, rfl⟩⟩
theorem tdok_223 (E : Env) : TDok P0 E 223 (.one (.val (.pointer none))) := ⟨.pointer 225, .pointer none, by kernel_rfl, by kernel_rfl, rfl, rfl, ⟨_, rfl⟩⟩
theorem tdok_224 (E : Env) : TDok P0 E 224 (.st 1 [(0, 1, false)] [.str []]) := ⟨#[.string ⟨#[]⟩], by kernel_rfl, by kernel_rfl, rfl, rfl⟩
theorem tdok_225 (E : Env) : TDok P0 E 225 (.st 1 [(0, 1, false)] [.str []]) := ⟨#[.string ⟨#[]⟩], by kernel_rfl, by kernel_rfl, rfl, rfl⟩
theorem tdok_231 (E : Env) : TDok P0 E 231 (.one (.val (.pointer none))) := ⟨.pointer 188, .pointer none, by kernel_rfl, by kernel_rfl, rfl, rfl, ⟨_, rfl⟩⟩
theorem tdok_233 (E : Env) : TDok P0 E 233 (.one (.val (.pointer none))) := ⟨.pointer 186, .pointer none, by kernel_rfl, by kernel_rfl, rfl, rfl, ⟨_, rfl⟩⟩
theorem tdok_235 (E : Env) : TDok P0 E 235 (.one (.val (.pointer none))) := ⟨.pointer 256, .pointer none, by kernel_rfl, by kernel_rfl, rfl, rfl, ⟨_, rfl⟩⟩
theorem tdok_237 (E : Env) : TDok P0 E 237 (.one (.val (.pointer none))) := ⟨.pointer 262, .pointer none, by kernel_rfl, by kernel_rfl, rfl, rfl, ⟨_, rfl⟩⟩
theorem tdok_241 (E : Env) : TDok P0 E 241 (.one (.val (.pointer none))) := ⟨.pointer 240, .pointer none, by kernel_rfl, by kernel_rfl, rfl, rfl, ⟨_, rfl⟩⟩
theorem tdok_245 (E : Env) : TDok P0 E 245 (.one (.val (.pointer none))) := ⟨.pointer 244, .pointer none, by kernel_rfl, by kernel_rfl, rfl, rfl, ⟨_, rfl⟩⟩
theorem tdok_247 (E : Env) : TDok P0 E 247 (.st 2 [(0, 1, false), (1, 1, false)] [.int .u8 0, .int .u8 0]) := ⟨#[.int .u8 0, .int .u8 0], by kernel_rfl, by kernel_rfl, rfl, rfl⟩
theorem tdok_248 (E : Env) : TDok P0 E 248 (.st 2 [(0, 1, false), (1, 1, false)] [.int .u8 0, .int .u8 0]) := ⟨#[.int .u8 0, .int .u8 0], by kernel_rfl, by kernel_rfl, rfl, rfl⟩
theorem tdok_250 (E : Env) : TDok P0 E 250 (.one (.val (.pointer none))) := ⟨.pointer 192, .pointer none, by kernel_rfl, by kernel_rfl, rfl, rfl, ⟨_, rfl⟩⟩
theorem tdok_253 (E : Env) : TDok P0 E 253 (.one (.val (.pointer none))) := ⟨.pointer 274, .pointer none, by kernel_rfl, by kernel_rfl, rfl, rfl, ⟨_, rfl⟩⟩
theorem tdok_255 (E : Env) : TDok P0 E 255 (.st 2 [(0, 1, false), (1, 1, false)] [.val (.pointer none), .str []]) := ⟨#[.pointer none, .string ⟨#[]⟩], by kernel_rfl, by kernel_rfl, rfl, rfl⟩
theorem tdok_256 (E : Env) : TDok P0 E 256 (.st 2 [(0, 1, false), (1, 1, false)] [.val (.pointer none), .str []]) := ⟨#[.pointer none, .string ⟨#[]⟩], by kernel_rfl, by kernel_rfl, rfl, rfl⟩
theorem tdok_257 (E : Env) : TDok P0 E 257 (.one (.val (.pointer none))) := ⟨.pointer 260, .pointer none, by kernel_rfl, by kernel_rfl, rfl, rfl, ⟨_, rfl⟩⟩
theorem tdok_259 (E : Env) : TDok P0 E 259 (.st 5 [(0, 1, false), (1, 1, false), (2, 1, false), (3, 1, false), (4, 1, false)] [.str [], .int .i64 0, .str [], .val (.pointer none), .nilS]) := ⟨#[.string ⟨#[]⟩, .int .i64 0, .string ⟨#[]⟩, .pointer none, .slice none 0 0], by kernel_rfl, by kernel_rfl, rfl, rfl⟩
theorem tdok_260 (E : Env) : TDok P0 E 260 (.st 5 [(0, 1, false), (1, 1, false), (2, 1, false), (3, 1, false), (4, 1, false)] [.str [], .int .i64 0, .str [], .val (.pointer none), .nilS]) := ⟨#[.string ⟨#[]⟩, .int .i64 0, .string ⟨#[]⟩, .pointer none, .slice none 0 0], by kernel_rfl, by kernel_rfl, rfl, rfl⟩
theorem tdok_266 (E : Env) : TDok P0 E 266 (.one (.val (.pointer none))) := ⟨.pointer 190, .pointer none, by kernel_rfl, by kernel_rfl, rfl, rfl, ⟨_, rfl⟩⟩
theorem tdok_268 (E : Env) : TDok P0 E 268 (.one (.val (.pointer none))) := ⟨.pointer 21, .pointer none, by kernel_rfl, by kernel_rfl, rfl, rfl, ⟨_, rfl⟩⟩
theorem tdok_277 (E : Env) : TDok P0 E 277 (.st 4 [(0, 1, false), (1, 1, false), (2, 1, false), (3, 1, false)] [.val (.pointer none), .val (.pointer none), .val (.pointer none), .str []]) := ⟨#[.pointer none, .pointer none, .pointer none, .string ⟨#[]⟩], by kernel_rfl, by kernel_rfl, rfl, rfl⟩
theorem tdok_278 (E : Env) : TDok P0 E 278 (.st 4 [(0, 1, false), (1, 1, false), (2, 1, false), (3, 1, false)] [.val (.pointer none), .val (.pointer none), .val (.pointer none), .str []]) := ⟨#[.pointer none, .pointer none, .pointer none, .string ⟨#[]⟩], by kernel_rfl, by kernel_rfl, rfl, rfl⟩
theorem tdok_283 (E : Env) : TDok P0 E 283 (.one (.int .u8 0)) := ⟨.int .u8, .int .u8 0, by kernel_rfl, by kernel_rfl, rfl, rfl, rfl⟩
theorem tdok_284 (E : Env) : TDok P0 E 284 (.one (.int .u8 0)) := ⟨.int .u8, .int .u8 0, by kernel_rfl, by kernel_rfl, rfl, rfl, rfl⟩
theorem tdok_286 (E : Env) : TDok P0 E 286 (.one (.int .i32 0)) := ⟨.int .i32, .int .i32 0, by kernel_rfl, by kernel_rfl, rfl, rfl, rfl⟩
theorem tdok_287 (E : Env) : TDok P0 E 287 (.one (.int .i32 0)) := ⟨.int .i32, .int .i32 0, by kernel_rfl, by kernel_rfl, rfl, rfl, rfl⟩
theorem tdok_288 (E : Env) : TDok P0 E 288 (.st 11 [(0, 1, false), (1, 1, false), (2, 1, false), (3, 1, false), (4, 1, false), (5, 1, false), (6, 1, false), (7, 1, false), (8, 1, false), (9, 1, false), (10, 1, false)] [.int .u64 0, .int .u64 0, .int .u32 0, .int .u8 0, .int .u8 0, .int .u8 0, .int .u8 0, .val .nilFunc, .val (.pointer none), .int .i32 0, .int .i32 0]) := ⟨#[.int .u64 0, .int .u64 0, .int .u32 0, .int .u8 0, .int .u8 0, .int .u8 0, .int .u8 0, .nilFunc, .pointer none, .int .i32 0, .int .i32 0], by kernel_rfl, by kernel_rfl, rfl, rfl⟩
theorem tdok_289 (E : Env) : TDok P0 E 289 (.st 11 [(0, 1, false), (1, 1, false), (2, 1, false), (3, 1, false), (4, 1, false), (5, 1, false), (6, 1, false), (7, 1, false), (8, 1, false), (9, 1, false), (10, 1, false)] [.int .u64 0, .int .u64 0, .int .u32 0, .int .u8 0, .int .u8 0, .int .u8 0, .int .u8 0, .val .nilFunc, .val (.pointer none), .int .i32 0, .int .i32 0]) := ⟨#[.int .u64 0, .int .u64 0, .int .u32 0, .int .u8 0, .int .u8 0, .int .u8 0, .int .u8 0, .nilFunc, .pointer none, .int .i32 0, .int .i32 0], by kernel_rfl, by kernel_rfl, rfl, rfl⟩
theorem tdok_291 (E : Env) : TDok P0 E 291 (.sl .u8) := ⟨5, by kernel_rfl, by kernel_rfl, by kernel_rfl, (fun _ => by kernel_rfl), .int .u8 0, 1, by kernel_rfl, by decide, by decide, rfl⟩
theorem tdok_292 (E : Env) : TDok P0 E 292 (.one (.val (.pointer none))) := ⟨.pointer 291, .pointer none, by kernel_rfl, by kernel_rfl, rfl, rfl, ⟨_, rfl⟩⟩
theorem tdok_293 (E : Env) : TDok P0 E 293 (.one (.val .nilIface)) := ⟨.interface #[("Write", 303)], .nilIface, by kernel_rfl, by kernel_rfl, rfl, rfl, ⟨_, rfl⟩⟩
theorem tdok_294 (E : Env) : TDok P0 E 294 (.one (.val .nilIface)) := ⟨.interface #[("Write", 303)], .nilIface, by kernel_rfl, by kernel_rfl, rfl, rfl, ⟨_, rfl⟩⟩
theorem tdok_295 (E : Env) : TDok P0 E 295 (.one (.val .nilIface)) := ⟨.interface #[("WriteString", 122)], .nilIface, by kernel_rfl, by kernel_rfl, rfl, rfl, ⟨_, rfl⟩⟩
theorem tdok_296 (E : Env) : TDok P0 E 296 (.one (.val .nilIface)) := ⟨.interface #[("WriteString", 122)], .nilIface, by kernel_rfl, by kernel_rfl, rfl, rfl, ⟨_, rfl⟩⟩
theorem tdok (E : Env) (t : TypeId) : TDok P0 E t (td t) := by
  unfold td
  split
  · exact tdok_2 E
  · exact tdok_3 E
  · exact tdok_4 E
  · exact tdok_5 E
  · exact tdok_6 E
  · exact tdok_7 E
  · exact tdok_8 E
  · exact tdok_9 E
  · exact tdok_10 E
  · exact tdok_11 E
  · exact tdok_12 E
  · exact tdok_13 E
  · exact tdok_14 E
  · exact tdok_15 E
  · exact tdok_16 E
  · exact tdok_17 E
  · exact tdok_18 E
  · exact tdok_19 E
  · exact tdok_20 E
  · exact tdok_21 E
  · exact tdok_22 E
  · exact tdok_30 E
  · exact tdok_31 E
  · exact tdok_32 E
  · exact tdok_37 E
  · exact tdok_45 E
  · exact tdok_46 E
  · exact tdok_47 E
  · exact tdok_55 E
  · exact tdok_56 E
  · exact tdok_57 E
  · exact tdok_60 E
  · exact tdok_61 E
  · exact tdok_62 E
  · exact tdok_63 E
  · exact tdok_65 E
  · exact tdok_66 E
  · exact tdok_72 E
  · exact tdok_74 E
  · exact tdok_75 E
  · exact tdok_76 E
  · exact tdok_77 E
  · exact tdok_80 E
  · exact tdok_81 E
  · exact tdok_82 E
  · exact tdok_103 E
  · exact tdok_104 E
  · exact tdok_119 E
  · exact tdok_120 E
  · exact tdok_127 E
  · exact tdok_132 E
  · exact tdok_133 E
  · exact tdok_134 E
  · exact tdok_135 E
  · exact tdok_160 E
  · exact tdok_162 E
  · exact tdok_170 E
  · exact tdok_171 E
  · exact tdok_174 E
  · exact tdok_186 E
  · exact tdok_189 E
  · exact tdok_190 E
  · exact tdok_195 E
  · exact tdok_196 E
  · exact tdok_205 E
  · exact tdok_219 E
  · exact tdok_223 E
  · exact tdok_224 E
  · exact tdok_225 E
  · exact tdok_231 E
  · exact tdok_233 E
  · exact tdok_235 E
  · exact tdok_237 E
  · exact tdok_241 E
  · exact tdok_245 E
  · exact tdok_247 E
  · exact tdok_248 E
  · exact tdok_250 E
  · exact tdok_253 E
  · exact tdok_255 E
  · exact tdok_256 E
  · exact tdok_257 E
  · exact tdok_259 E
  · exact tdok_260 E
  · exact tdok_266 E
  · exact tdok_268 E
  · exact tdok_277 E
  · exact tdok_278 E
  · exact tdok_283 E
  · exact tdok_284 E
  · exact tdok_286 E
  · exact tdok_287 E
  · exact tdok_288 E
  · exact tdok_289 E
  · exact tdok_291 E
  · exact tdok_292 E
  · exact tdok_293 E
  · exact tdok_294 E
  · exact tdok_295 E
  · exact tdok_296 E
  · trivial
def eqt : TypeId → Bool
  | 81 => true
  | 82 => true
  | 127 => true
  | _ => false
@[push_cast] theorem eqt_81 : eqt 81 = true := rfl
@[push_cast] theorem eqt_82 : eqt 82 = true := rfl
@[push_cast] theorem eqt_127 : eqt 127 = true := rfl
theorem eqt_ok (t : TypeId) (h : eqt t = true) : EqS P0 t := by
  unfold eqt at h
  split at h
  · exact eqS_ofB (by kernel_rfl)
  · exact eqS_ofB (by kernel_rfl)
  · exact eqS_ofB (by kernel_rfl)
  · cases h
def ety0 : K → TypeId := fun _ => 0
def mk (l : List (FuncId × Spec)) (d : List (Nat × List Nat × List (List Nat))) (g : List (Nat × List Gho) := []) (il : List (FuncId × Inl) := []) (fd : Option FuncId := none) : Env := ⟨td, ety0, calOf l, drOf d, eqt, ghOf g, inlF il, fndF fd⟩
theorem mixed : P0.follows .mixedOrders = true := by kernel_rfl
theorem mkOk {l : List (FuncId × Spec)} {d : List (Nat × List Nat × List (List Nat))} {g : List (Nat × List Gho)} {il : List (FuncId × Inl)} {fd : Option FuncId} (h : Rows P0 ety0 l) (hi : Inls P0 il := by exact .nil) (hf : Fnds P0 fd := by exact .nil) : EnvOk P0 (mk l d g il fd) := EnvOk.of mixed tdok h _ _ eqt_ok _ _ hi.get _ hf.get
end Go.Ab
