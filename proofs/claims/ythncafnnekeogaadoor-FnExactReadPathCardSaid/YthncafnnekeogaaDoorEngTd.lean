/- The table of types. -/
import Derived.Test.YthncafnnekeogaaDoorEng4
import Derived.Lib.LaidTab
import Derived.Lib.ItoaNum
import Derived.Test.YthncafnnekeogaaDoorProg
set_option linter.all false
set_option linter.unusedSimpArgs false
set_option linter.unusedVariables false
set_option linter.unusedSectionVars false
namespace Go.Ab
open Go
noncomputable abbrev P0 : Program := Go.Proofs.Tryd.prog
/-- What is known of the first memory. -/
def Kn0 (w0 : World) : Prop := w0.ShapedOpen P0 ∧ Lib.TabIs P0 w0 "internal/strconv.uint64pow10" .u64 Lib.pow10Tab ∧ (∃ tp p, w0.var? P0 "strconv.ErrSyntax" = some #[.iface tp p]) ∧ ∃ tp p, w0.var? P0 "strconv.ErrRange" = some #[.iface tp p]
noncomputable instance gi0 : GI := ⟨fun w R => ∃ w0 : World, Kn0 w0 ∧ ∀ b, b < w0.heap.size → R b ∧ w.heap[b]? = w0.heap[b]?, fun {w w' R R'} h hR hm => by
  obtain ⟨w0, h1, h2⟩ := h
  refine ⟨w0, h1, fun b hb => ⟨hR b (h2 b hb).1, ?_⟩⟩
  have e := (h2 b hb).2
  have hlt : b < w.heap.size := by
    rw [Array.getElem?_eq_getElem hb] at e
    exact (Array.getElem?_eq_some_iff.1 e).1
  rw [hm b (h2 b hb).1 hlt, e]⟩
theorem gi_start {W : World} (h : Kn0 W) : GI.p W fun b => b < W.heap.size := ⟨W, h, fun _ hb => ⟨hb, rfl⟩⟩
theorem gi_cell {w0 w : World} {R : Nat → Prop} (h : ∀ b, b < w0.heap.size → R b ∧ w.heap[b]? = w0.heap[b]?) {a : Addr} {v : Value} (hc : w0.cell? a = some v) : w.cell? a = some v := by
  rw [World.cell?_of_block (h _ (World.block_lt_of_cell? _ _ hc)).2]; exact hc
theorem gi_var {w0 w : World} {R : Nat → Prop} (h : ∀ b, b < w0.heap.size → R b ∧ w.heap[b]? = w0.heap[b]?) {n : String} {cs : Array Value} (hc : w0.var? P0 n = some cs) : w.var? P0 n = some cs := by
  unfold World.var? at hc ⊢
  cases hg : P0.globalNamed n with
  | none => rw [hg] at hc; cases hc
  | some g =>
    rw [hg] at hc
    simp only [Option.bind_some] at hc ⊢
    have hlt : g < w0.heap.size := by
      rcases Nat.lt_or_ge g w0.heap.size with h' | h'
      · exact h'
      · simp [Array.getElem?_eq_none h'] at hc
    rw [(h g hlt).2]; exact hc
theorem gi_tab {w : World} {R : Nat → Prop} (h : GI.p w R) : Lib.TabIs P0 w "internal/strconv.uint64pow10" .u64 Lib.pow10Tab := by
  obtain ⟨w0, ⟨_, h1, _⟩, h2⟩ := h
  exact gi_var h2 h1
theorem gi_syn {w : World} {R : Nat → Prop} (h : GI.p w R) : ∃ tp p, w.var? P0 "strconv.ErrSyntax" = some #[.iface tp p] := by
  obtain ⟨w0, ⟨_, _, ⟨tp, p, h1⟩, _⟩, h2⟩ := h
  exact ⟨tp, p, gi_var h2 h1⟩
theorem gi_ran {w : World} {R : Nat → Prop} (h : GI.p w R) : ∃ tp p, w.var? P0 "strconv.ErrRange" = some #[.iface tp p] := by
  obtain ⟨w0, ⟨_, _, _, tp, p, h1⟩, h2⟩ := h
  exact ⟨tp, p, gi_var h2 h1⟩
def td : TypeId → TD
  | 2 => .one (.int .i64 0)
  | 3 => .one (.int .i64 0)
  | 4 => .one (.bool false)
  | 5 => .one (.int .u8 0)
  | 6 => .one (.int .u8 0)
  | 7 => .st 4 [(0, 1, false), (1, 1, false), (2, 1, false), (3, 1, false)] [.int .i64 0, .int .i64 0, .bool false, .int .u8 0]
  | 8 => .st 4 [(0, 1, false), (1, 1, false), (2, 1, false), (3, 1, false)] [.int .i64 0, .int .i64 0, .bool false, .int .u8 0]
  | 9 => .one (.str [])
  | 10 => .one (.str [])
  | 11 => .one (.str [])
  | 12 => .one (.int .u64 0)
  | 13 => .st 2 [(0, 1, false), (1, 1, false)] [.str [], .int .u64 0]
  | 14 => .st 2 [(0, 1, false), (1, 1, false)] [.str [], .int .u64 0]
  | 15 => .one (.val (.pointer none))
  | 16 => .one (.val (.pointer none))
  | 17 => .one (.val (.pointer none))
  | 18 => .st 1 [(0, 1, false)] [.val (.pointer none)]
  | 19 => .st 1 [(0, 1, false)] [.val (.pointer none)]
  | 20 => .one (.val .nilIface)
  | 21 => .one (.int .i32 0)
  | 22 => .sl .int
  | 28 => .sl .rule
  | 29 => .sl .str
  | 30 => .st 9 [(0, 1, false), (1, 1, false), (2, 1, false), (3, 1, false), (4, 1, false), (5, 1, false), (6, 1, false), (7, 1, false), (8, 1, false)] [.bool false, .bool false, .nilS, .nilS, .nilS, .nilS, .nilS, .bool false, .bool false]
  | 31 => .st 9 [(0, 1, false), (1, 1, false), (2, 1, false), (3, 1, false), (4, 1, false), (5, 1, false), (6, 1, false), (7, 1, false), (8, 1, false)] [.bool false, .bool false, .nilS, .nilS, .nilS, .nilS, .nilS, .bool false, .bool false]
  | 51 => .one (.val (.pointer none))
  | 55 => .st 3 [(0, 1, false), (1, 1, false), (2, 1, false)] [.int .i64 0, .str [], .nilS]
  | 56 => .st 3 [(0, 1, false), (1, 1, false), (2, 1, false)] [.int .i64 0, .str [], .nilS]
  | 61 => .one (.val .nilIface)
  | 62 => .one (.val .nilIface)
  | 83 => .sl .u8
  | 92 => .st 2 [(0, 1, false), (1, 1, false)] [.int .i64 0, .int .i64 0]
  | 93 => .st 2 [(0, 1, false), (1, 1, false)] [.int .i64 0, .int .i64 0]
  | 101 => .one (.int .i64 0)
  | 104 => .one (.val (.pointer none))
  | 112 => .one (.int .u64 0)
  | 113 => .one (.int .u64 0)
  | 126 => .st 2 [(0, 1, false), (1, 1, false)] [.int .u8 0, .int .u8 0]
  | 127 => .st 2 [(0, 1, false), (1, 1, false)] [.int .u8 0, .int .u8 0]
  | 129 => .one (.int .u32 0)
  | 133 => .one (.val (.pointer none))
  | 134 => .one (.val (.pointer none))
  | 135 => .st 1 [(0, 1, false)] [.str []]
  | 136 => .st 1 [(0, 1, false)] [.str []]
  | 145 => .st 4 [(0, 1, false), (1, 1, false), (2, 1, false), (3, 1, false)] [.val (.pointer none), .val (.pointer none), .val (.pointer none), .str []]
  | 146 => .st 4 [(0, 1, false), (1, 1, false), (2, 1, false), (3, 1, false)] [.val (.pointer none), .val (.pointer none), .val (.pointer none), .str []]
  | 151 => .one (.int .u8 0)
  | 152 => .one (.int .u8 0)
  | 154 => .one (.int .i32 0)
  | 155 => .one (.int .i32 0)
  | 156 => .st 11 [(0, 1, false), (1, 1, false), (2, 1, false), (3, 1, false), (4, 1, false), (5, 1, false), (6, 1, false), (7, 1, false), (8, 1, false), (9, 1, false), (10, 1, false)] [.int .u64 0, .int .u64 0, .int .u32 0, .int .u8 0, .int .u8 0, .int .u8 0, .int .u8 0, .val .nilFunc, .val (.pointer none), .int .i32 0, .int .i32 0]
  | 157 => .st 11 [(0, 1, false), (1, 1, false), (2, 1, false), (3, 1, false), (4, 1, false), (5, 1, false), (6, 1, false), (7, 1, false), (8, 1, false), (9, 1, false), (10, 1, false)] [.int .u64 0, .int .u64 0, .int .u32 0, .int .u8 0, .int .u8 0, .int .u8 0, .int .u8 0, .val .nilFunc, .val (.pointer none), .int .i32 0, .int .i32 0]
  | _ => .unk
@[push_cast] theorem td_2 : td 2 = .one (.int .i64 0) := rfl
@[push_cast] theorem td_3 : td 3 = .one (.int .i64 0) := rfl
@[push_cast] theorem td_4 : td 4 = .one (.bool false) := rfl
@[push_cast] theorem td_5 : td 5 = .one (.int .u8 0) := rfl
@[push_cast] theorem td_6 : td 6 = .one (.int .u8 0) := rfl
@[push_cast] theorem td_7 : td 7 = .st 4 [(0, 1, false), (1, 1, false), (2, 1, false), (3, 1, false)] [.int .i64 0, .int .i64 0, .bool false, .int .u8 0] := rfl
@[push_cast] theorem td_8 : td 8 = .st 4 [(0, 1, false), (1, 1, false), (2, 1, false), (3, 1, false)] [.int .i64 0, .int .i64 0, .bool false, .int .u8 0] := rfl
@[push_cast] theorem td_9 : td 9 = .one (.str []) := rfl
@[push_cast] theorem td_10 : td 10 = .one (.str []) := rfl
@[push_cast] theorem td_11 : td 11 = .one (.str []) := rfl
@[push_cast] theorem td_12 : td 12 = .one (.int .u64 0) := rfl
@[push_cast] theorem td_13 : td 13 = .st 2 [(0, 1, false), (1, 1, false)] [.str [], .int .u64 0] := rfl
@[push_cast] theorem td_14 : td 14 = .st 2 [(0, 1, false), (1, 1, false)] [.str [], .int .u64 0] := rfl
@[push_cast] theorem td_15 : td 15 = .one (.val (.pointer none)) := rfl
@[push_cast] theorem td_16 : td 16 = .one (.val (.pointer none)) := rfl
@[push_cast] theorem td_17 : td 17 = .one (.val (.pointer none)) := rfl
@[push_cast] theorem td_18 : td 18 = .st 1 [(0, 1, false)] [.val (.pointer none)] := rfl
@[push_cast] theorem td_19 : td 19 = .st 1 [(0, 1, false)] [.val (.pointer none)] := rfl
@[push_cast] theorem td_20 : td 20 = .one (.val .nilIface) := rfl
@[push_cast] theorem td_21 : td 21 = .one (.int .i32 0) := rfl
@[push_cast] theorem td_22 : td 22 = .sl .int := rfl
@[push_cast] theorem td_28 : td 28 = .sl .rule := rfl
@[push_cast] theorem td_29 : td 29 = .sl .str := rfl
@[push_cast] theorem td_30 : td 30 = .st 9 [(0, 1, false), (1, 1, false), (2, 1, false), (3, 1, false), (4, 1, false), (5, 1, false), (6, 1, false), (7, 1, false), (8, 1, false)] [.bool false, .bool false, .nilS, .nilS, .nilS, .nilS, .nilS, .bool false, .bool false] := rfl
@[push_cast] theorem td_31 : td 31 = .st 9 [(0, 1, false), (1, 1, false), (2, 1, false), (3, 1, false), (4, 1, false), (5, 1, false), (6, 1, false), (7, 1, false), (8, 1, false)] [.bool false, .bool false, .nilS, .nilS, .nilS, .nilS, .nilS, .bool false, .bool false] := rfl
@[push_cast] theorem td_51 : td 51 = .one (.val (.pointer none)) := rfl
@[push_cast] theorem td_55 : td 55 = .st 3 [(0, 1, false), (1, 1, false), (2, 1, false)] [.int .i64 0, .str [], .nilS] := rfl
@[push_cast] theorem td_56 : td 56 = .st 3 [(0, 1, false), (1, 1, false), (2, 1, false)] [.int .i64 0, .str [], .nilS] := rfl
@[push_cast] theorem td_61 : td 61 = .one (.val .nilIface) := rfl
@[push_cast] theorem td_62 : td 62 = .one (.val .nilIface) := rfl
@[push_cast] theorem td_83 : td 83 = .sl .u8 := rfl
@[push_cast] theorem td_92 : td 92 = .st 2 [(0, 1, false), (1, 1, false)] [.int .i64 0, .int .i64 0] := rfl
@[push_cast] theorem td_93 : td 93 = .st 2 [(0, 1, false), (1, 1, false)] [.int .i64 0, .int .i64 0] := rfl
@[push_cast] theorem td_101 : td 101 = .one (.int .i64 0) := rfl
@[push_cast] theorem td_104 : td 104 = .one (.val (.pointer none)) := rfl
@[push_cast] theorem td_112 : td 112 = .one (.int .u64 0) := rfl
@[push_cast] theorem td_113 : td 113 = .one (.int .u64 0) := rfl
@[push_cast] theorem td_126 : td 126 = .st 2 [(0, 1, false), (1, 1, false)] [.int .u8 0, .int .u8 0] := rfl
@[push_cast] theorem td_127 : td 127 = .st 2 [(0, 1, false), (1, 1, false)] [.int .u8 0, .int .u8 0] := rfl
@[push_cast] theorem td_129 : td 129 = .one (.int .u32 0) := rfl
@[push_cast] theorem td_133 : td 133 = .one (.val (.pointer none)) := rfl
@[push_cast] theorem td_134 : td 134 = .one (.val (.pointer none)) := rfl
@[push_cast] theorem td_135 : td 135 = .st 1 [(0, 1, false)] [.str []] := rfl
@[push_cast] theorem td_136 : td 136 = .st 1 [(0, 1, false)] [.str []] := rfl
@[push_cast] theorem td_145 : td 145 = .st 4 [(0, 1, false), (1, 1, false), (2, 1, false), (3, 1, false)] [.val (.pointer none), .val (.pointer none), .val (.pointer none), .str []] := rfl
@[push_cast] theorem td_146 : td 146 = .st 4 [(0, 1, false), (1, 1, false), (2, 1, false), (3, 1, false)] [.val (.pointer none), .val (.pointer none), .val (.pointer none), .str []] := rfl
@[push_cast] theorem td_151 : td 151 = .one (.int .u8 0) := rfl
@[push_cast] theorem td_152 : td 152 = .one (.int .u8 0) := rfl
@[push_cast] theorem td_154 : td 154 = .one (.int .i32 0) := rfl
@[push_cast] theorem td_155 : td 155 = .one (.int .i32 0) := rfl
@[push_cast] theorem td_156 : td 156 = .st 11 [(0, 1, false), (1, 1, false), (2, 1, false), (3, 1, false), (4, 1, false), (5, 1, false), (6, 1, false), (7, 1, false), (8, 1, false), (9, 1, false), (10, 1, false)] [.int .u64 0, .int .u64 0, .int .u32 0, .int .u8 0, .int .u8 0, .int .u8 0, .int .u8 0, .val .nilFunc, .val (.pointer none), .int .i32 0, .int .i32 0] := rfl
@[push_cast] theorem td_157 : td 157 = .st 11 [(0, 1, false), (1, 1, false), (2, 1, false), (3, 1, false), (4, 1, false), (5, 1, false), (6, 1, false), (7, 1, false), (8, 1, false), (9, 1, false), (10, 1, false)] [.int .u64 0, .int .u64 0, .int .u32 0, .int .u8 0, .int .u8 0, .int .u8 0, .int .u8 0, .val .nilFunc, .val (.pointer none), .int .i32 0, .int .i32 0] := rfl
theorem tdok_2 (E : Env) : TDok P0 E 2 (.one (.int .i64 0)) := ⟨.int .i64, .int .i64 0, by kernel_rfl, by kernel_rfl, rfl, rfl, rfl⟩
theorem tdok_3 (E : Env) : TDok P0 E 3 (.one (.int .i64 0)) := ⟨.int .i64, .int .i64 0, by kernel_rfl, by kernel_rfl, rfl, rfl, rfl⟩
theorem tdok_4 (E : Env) : TDok P0 E 4 (.one (.bool false)) := ⟨.bool, .bool false, by kernel_rfl, by kernel_rfl, rfl, rfl, rfl⟩
theorem tdok_5 (E : Env) : TDok P0 E 5 (.one (.int .u8 0)) := ⟨.int .u8, .int .u8 0, by kernel_rfl, by kernel_rfl, rfl, rfl, rfl⟩
theorem tdok_6 (E : Env) : TDok P0 E 6 (.one (.int .u8 0)) := ⟨.int .u8, .int .u8 0, by kernel_rfl, by kernel_rfl, rfl, rfl, rfl⟩
theorem tdok_7 (E : Env) : TDok P0 E 7 (.st 4 [(0, 1, false), (1, 1, false), (2, 1, false), (3, 1, false)] [.int .i64 0, .int .i64 0, .bool false, .int .u8 0]) := ⟨#[.int .i64 0, .int .i64 0, .bool false, .int .u8 0], by kernel_rfl, by kernel_rfl, rfl, rfl⟩
theorem tdok_8 (E : Env) : TDok P0 E 8 (.st 4 [(0, 1, false), (1, 1, false), (2, 1, false), (3, 1, false)] [.int .i64 0, .int .i64 0, .bool false, .int .u8 0]) := ⟨#[.int .i64 0, .int .i64 0, .bool false, .int .u8 0], by kernel_rfl, by kernel_rfl, rfl, rfl⟩
theorem tdok_9 (E : Env) : TDok P0 E 9 (.one (.str [])) := ⟨.string, .string ⟨#[]⟩, by kernel_rfl, by kernel_rfl, rfl, rfl, rfl⟩
theorem tdok_10 (E : Env) : TDok P0 E 10 (.one (.str [])) := ⟨.string, .string ⟨#[]⟩, by kernel_rfl, by kernel_rfl, rfl, rfl, rfl⟩
theorem tdok_11 (E : Env) : TDok P0 E 11 (.one (.str [])) := ⟨.string, .string ⟨#[]⟩, by kernel_rfl, by kernel_rfl, rfl, rfl, rfl⟩
theorem tdok_12 (E : Env) : TDok P0 E 12 (.one (.int .u64 0)) := ⟨.int .u64, .int .u64 0, by kernel_rfl, by kernel_rfl, rfl, rfl, rfl⟩
theorem tdok_13 (E : Env) : TDok P0 E 13 (.st 2 [(0, 1, false), (1, 1, false)] [.str [], .int .u64 0]) := ⟨#[.string ⟨#[]⟩, .int .u64 0], by kernel_rfl, by kernel_rfl, rfl, rfl⟩
theorem tdok_14 (E : Env) : TDok P0 E 14 (.st 2 [(0, 1, false), (1, 1, false)] [.str [], .int .u64 0]) := ⟨#[.string ⟨#[]⟩, .int .u64 0], by kernel_rfl, by kernel_rfl, rfl, rfl⟩
theorem tdok_15 (E : Env) : TDok P0 E 15 (.one (.val (.pointer none))) := ⟨.pointer 146, .pointer none, by kernel_rfl, by kernel_rfl, rfl, rfl, ⟨_, rfl⟩⟩
theorem tdok_16 (E : Env) : TDok P0 E 16 (.one (.val (.pointer none))) := ⟨.pointer 149, .pointer none, by kernel_rfl, by kernel_rfl, rfl, rfl, ⟨_, rfl⟩⟩
theorem tdok_17 (E : Env) : TDok P0 E 17 (.one (.val (.pointer none))) := ⟨.pointer 157, .pointer none, by kernel_rfl, by kernel_rfl, rfl, rfl, ⟨_, rfl⟩⟩
theorem tdok_18 (E : Env) : TDok P0 E 18 (.st 1 [(0, 1, false)] [.val (.pointer none)]) := ⟨#[.pointer none], by kernel_rfl, by kernel_rfl, rfl, rfl⟩
theorem tdok_19 (E : Env) : TDok P0 E 19 (.st 1 [(0, 1, false)] [.val (.pointer none)]) := ⟨#[.pointer none], by kernel_rfl, by kernel_rfl, rfl, rfl⟩
theorem tdok_20 (E : Env) : TDok P0 E 20 (.one (.val .nilIface)) := ⟨.interface #[], .nilIface, by kernel_rfl, by kernel_rfl, rfl, rfl, ⟨_, rfl⟩⟩
theorem tdok_21 (E : Env) : TDok P0 E 21 (.one (.int .i32 0)) := ⟨.int .i32, .int .i32 0, by kernel_rfl, by kernel_rfl, rfl, rfl, rfl⟩
theorem tdok_22 (E : Env) : TDok P0 E 22 (.sl .int) := ⟨3, by kernel_rfl, by kernel_rfl, by kernel_rfl, (fun h => by cases h), .int .i64 0, 8, by kernel_rfl, by decide, by decide, rfl⟩
theorem tdok_28 (E : Env) : TDok P0 E 28 (.sl .rule) := ⟨56, by kernel_rfl, by kernel_rfl, by kernel_rfl, (fun h => by cases h), .agg #[.int .i64 0, .string ⟨#[]⟩, .slice none 0 0], 48, by kernel_rfl, by decide, by decide, rfl⟩
theorem tdok_29 (E : Env) : TDok P0 E 29 (.sl .str) := ⟨9, by kernel_rfl, by kernel_rfl, by kernel_rfl, (fun h => by cases h), .string ⟨#[]⟩, 16, by kernel_rfl, by decide, by decide, rfl⟩
theorem tdok_30 (E : Env) : TDok P0 E 30 (.st 9 [(0, 1, false), (1, 1, false), (2, 1, false), (3, 1, false), (4, 1, false), (5, 1, false), (6, 1, false), (7, 1, false), (8, 1, false)] [.bool false, .bool false, .nilS, .nilS, .nilS, .nilS, .nilS, .bool false, .bool false]) := ⟨#[.bool false, .bool false, .slice none 0 0, .slice none 0 0, .slice none 0 0, .slice none 0 0, .slice none 0 0, .bool false, .bool false], by kernel_rfl, by kernel_rfl, rfl, rfl⟩
theorem tdok_31 (E : Env) : TDok P0 E 31 (.st 9 [(0, 1, false), (1, 1, false), (2, 1, false), (3, 1, false), (4, 1, false), (5, 1, false), (6, 1, false), (7, 1, false), (8, 1, false)] [.bool false, .bool false, .nilS, .nilS, .nilS, .nilS, .nilS, .bool false, .bool false]) := ⟨#[.bool false, .bool false, .slice none 0 0, .slice none 0 0, .slice none 0 0, .slice none 0 0, .slice none 0 0, .bool false, .bool false], by kernel_rfl, by kernel_rfl, rfl, rfl⟩
theorem tdok_51 (E : Env) : TDok P0 E 51 (.one (.val (.pointer none))) := ⟨.pointer 31, .pointer none, by kernel_rfl, by kernel_rfl, rfl, rfl, ⟨_, rfl⟩⟩
theorem tdok_55 (E : Env) : TDok P0 E 55 (.st 3 [(0, 1, false), (1, 1, false), (2, 1, false)] [.int .i64 0, .str [], .nilS]) := ⟨#[.int .i64 0, .string ⟨#[]⟩, .slice none 0 0], by kernel_rfl, by kernel_rfl, rfl, rfl⟩
theorem tdok_56 (E : Env) : TDok P0 E 56 (.st 3 [(0, 1, false), (1, 1, false), (2, 1, false)] [.int .i64 0, .str [], .nilS]) := ⟨#[.int .i64 0, .string ⟨#[]⟩, .slice none 0 0], by kernel_rfl, by kernel_rfl, rfl, rfl⟩
theorem tdok_61 (E : Env) : TDok P0 E 61 (.one (.val .nilIface)) := ⟨.interface #[("Error", 144)], .nilIface, by kernel_rfl, by kernel_rfl, rfl, rfl, ⟨_, rfl⟩⟩
theorem tdok_62 (E : Env) : TDok P0 E 62 (.one (.val .nilIface)) := ⟨.interface #[("Error", 144)], .nilIface, by kernel_rfl, by kernel_rfl, rfl, rfl, ⟨_, rfl⟩⟩
theorem tdok_83 (E : Env) : TDok P0 E 83 (.sl .u8) := ⟨5, by kernel_rfl, by kernel_rfl, by kernel_rfl, (fun _ => by kernel_rfl), .int .u8 0, 1, by kernel_rfl, by decide, by decide, rfl⟩
theorem tdok_92 (E : Env) : TDok P0 E 92 (.st 2 [(0, 1, false), (1, 1, false)] [.int .i64 0, .int .i64 0]) := ⟨#[.int .i64 0, .int .i64 0], by kernel_rfl, by kernel_rfl, rfl, rfl⟩
theorem tdok_93 (E : Env) : TDok P0 E 93 (.st 2 [(0, 1, false), (1, 1, false)] [.int .i64 0, .int .i64 0]) := ⟨#[.int .i64 0, .int .i64 0], by kernel_rfl, by kernel_rfl, rfl, rfl⟩
theorem tdok_101 (E : Env) : TDok P0 E 101 (.one (.int .i64 0)) := ⟨.int .i64, .int .i64 0, by kernel_rfl, by kernel_rfl, rfl, rfl, rfl⟩
theorem tdok_104 (E : Env) : TDok P0 E 104 (.one (.val (.pointer none))) := ⟨.pointer 118, .pointer none, by kernel_rfl, by kernel_rfl, rfl, rfl, ⟨_, rfl⟩⟩
theorem tdok_112 (E : Env) : TDok P0 E 112 (.one (.int .u64 0)) := ⟨.int .u64, .int .u64 0, by kernel_rfl, by kernel_rfl, rfl, rfl, rfl⟩
theorem tdok_113 (E : Env) : TDok P0 E 113 (.one (.int .u64 0)) := ⟨.int .u64, .int .u64 0, by kernel_rfl, by kernel_rfl, rfl, rfl, rfl⟩
theorem tdok_126 (E : Env) : TDok P0 E 126 (.st 2 [(0, 1, false), (1, 1, false)] [.int .u8 0, .int .u8 0]) := ⟨#[.int .u8 0, .int .u8 0], by kernel_rfl, by kernel_rfl, rfl, rfl⟩
theorem tdok_127 (E : Env) : TDok P0 E 127 (.st 2 [(0, 1, false), (1, 1, false)] [.int .u8 0, .int .u8 0]) := ⟨#[.int .u8 0, .int .u8 0], by kernel_rfl, by kernel_rfl, rfl, rfl⟩
theorem tdok_129 (E : Env) : TDok P0 E 129 (.one (.int .u32 0)) := ⟨.int .u32, .int .u32 0, by kernel_rfl, by kernel_rfl, rfl, rfl, rfl⟩
theorem tdok_133 (E : Env) : TDok P0 E 133 (.one (.val (.pointer none))) := ⟨.pointer 5, .pointer none, by kernel_rfl, by kernel_rfl, rfl, rfl, ⟨_, rfl⟩⟩
theorem tdok_134 (E : Env) : TDok P0 E 134 (.one (.val (.pointer none))) := ⟨.pointer 136, .pointer none, by kernel_rfl, by kernel_rfl, rfl, rfl, ⟨_, rfl⟩⟩
theorem tdok_135 (E : Env) : TDok P0 E 135 (.st 1 [(0, 1, false)] [.str []]) := ⟨#[.string ⟨#[]⟩], by kernel_rfl, by kernel_rfl, rfl, rfl⟩
theorem tdok_136 (E : Env) : TDok P0 E 136 (.st 1 [(0, 1, false)] [.str []]) := ⟨#[.string ⟨#[]⟩], by kernel_rfl, by kernel_rfl, rfl, rfl⟩
theorem tdok_145 (E : Env) : TDok P0 E 145 (.st 4 [(0, 1, false), (1, 1, false), (2, 1, false), (3, 1, false)] [.val (.pointer none), .val (.pointer none), .val (.pointer none), .str []]) := ⟨#[.pointer none, .pointer none, .pointer none, .string ⟨#[]⟩], by kernel_rfl, by kernel_rfl, rfl, rfl⟩
theorem tdok_146 (E : Env) : TDok P0 E 146 (.st 4 [(0, 1, false), (1, 1, false), (2, 1, false), (3, 1, false)] [.val (.pointer none), .val (.pointer none), .val (.pointer none), .str []]) := ⟨#[.pointer none, .pointer none, .pointer none, .string ⟨#[]⟩], by kernel_rfl, by kernel_rfl, rfl, rfl⟩
theorem tdok_151 (E : Env) : TDok P0 E 151 (.one (.int .u8 0)) := ⟨.int .u8, .int .u8 0, by kernel_rfl, by kernel_rfl, rfl, rfl, rfl⟩
theorem tdok_152 (E : Env) : TDok P0 E 152 (.one (.int .u8 0)) := ⟨.int .u8, .int .u8 0, by kernel_rfl, by kernel_rfl, rfl, rfl, rfl⟩
theorem tdok_154 (E : Env) : TDok P0 E 154 (.one (.int .i32 0)) := ⟨.int .i32, .int .i32 0, by kernel_rfl, by kernel_rfl, rfl, rfl, rfl⟩
theorem tdok_155 (E : Env) : TDok P0 E 155 (.one (.int .i32 0)) := ⟨.int .i32, .int .i32 0, by kernel_rfl, by kernel_rfl, rfl, rfl, rfl⟩
theorem tdok_156 (E : Env) : TDok P0 E 156 (.st 11 [(0, 1, false), (1, 1, false), (2, 1, false), (3, 1, false), (4, 1, false), (5, 1, false), (6, 1, false), (7, 1, false), (8, 1, false), (9, 1, false), (10, 1, false)] [.int .u64 0, .int .u64 0, .int .u32 0, .int .u8 0, .int .u8 0, .int .u8 0, .int .u8 0, .val .nilFunc, .val (.pointer none), .int .i32 0, .int .i32 0]) := ⟨#[.int .u64 0, .int .u64 0, .int .u32 0, .int .u8 0, .int .u8 0, .int .u8 0, .int .u8 0, .nilFunc, .pointer none, .int .i32 0, .int .i32 0], by kernel_rfl, by kernel_rfl, rfl, rfl⟩
theorem tdok_157 (E : Env) : TDok P0 E 157 (.st 11 [(0, 1, false), (1, 1, false), (2, 1, false), (3, 1, false), (4, 1, false), (5, 1, false), (6, 1, false), (7, 1, false), (8, 1, false), (9, 1, false), (10, 1, false)] [.int .u64 0, .int .u64 0, .int .u32 0, .int .u8 0, .int .u8 0, .int .u8 0, .int .u8 0, .val .nilFunc, .val (.pointer none), .int .i32 0, .int .i32 0]) := ⟨#[.int .u64 0, .int .u64 0, .int .u32 0, .int .u8 0, .int .u8 0, .int .u8 0, .int .u8 0, .nilFunc, .pointer none, .int .i32 0, .int .i32 0], by kernel_rfl, by kernel_rfl, rfl, rfl⟩
theorem tdok (E : Env) (t : TypeId) : TDok P0 E t (td t) := by
  unfold td
  split
  · exact tdok_2 E
  · exact tdok_3 E
  · exact tdok_4 E
  · exact tdok_5 E
  · exact tdok_6 E
  · exact tdok_7 E
  · exact tdok_8 E
  · exact tdok_9 E
  · exact tdok_10 E
  · exact tdok_11 E
  · exact tdok_12 E
  · exact tdok_13 E
  · exact tdok_14 E
  · exact tdok_15 E
  · exact tdok_16 E
  · exact tdok_17 E
  · exact tdok_18 E
  · exact tdok_19 E
  · exact tdok_20 E
  · exact tdok_21 E
  · exact tdok_22 E
  · exact tdok_28 E
  · exact tdok_29 E
  · exact tdok_30 E
  · exact tdok_31 E
  · exact tdok_51 E
  · exact tdok_55 E
  · exact tdok_56 E
  · exact tdok_61 E
  · exact tdok_62 E
  · exact tdok_83 E
  · exact tdok_92 E
  · exact tdok_93 E
  · exact tdok_101 E
  · exact tdok_104 E
  · exact tdok_112 E
  · exact tdok_113 E
  · exact tdok_126 E
  · exact tdok_127 E
  · exact tdok_129 E
  · exact tdok_133 E
  · exact tdok_134 E
  · exact tdok_135 E
  · exact tdok_136 E
  · exact tdok_145 E
  · exact tdok_146 E
  · exact tdok_151 E
  · exact tdok_152 E
  · exact tdok_154 E
  · exact tdok_155 E
  · exact tdok_156 E
  · exact tdok_157 E
  · trivial
def eqt : TypeId → Bool
  | _ => false
theorem eqt_ok (t : TypeId) (h : eqt t = true) : EqS P0 t := by
  unfold eqt at h
  split at h
  · cases h
def ety0 : K → TypeId := fun _ => 0
def mk (l : List (FuncId × Spec)) (d : List (Nat × List Nat × List (List Nat))) (g : List (Nat × List Gho) := []) (il : List (FuncId × Inl) := []) (fd : Option FuncId := none) : Env := ⟨td, ety0, calOf l, drOf d, eqt, ghOf g, inlF il, fndF fd⟩
theorem mixed : P0.follows .mixedOrders = true := by kernel_rfl
theorem mkOk {l : List (FuncId × Spec)} {d : List (Nat × List Nat × List (List Nat))} {g : List (Nat × List Gho)} {il : List (FuncId × Inl)} {fd : Option FuncId} (h : Rows P0 ety0 l) (hi : Inls P0 il := by exact .nil) (hf : Fnds P0 fd := by exact .nil) : EnvOk P0 (mk l d g il fd) := EnvOk.of mixed tdok h _ _ eqt_ok _ _ hi.get _ hf.get
end Go.Ab
