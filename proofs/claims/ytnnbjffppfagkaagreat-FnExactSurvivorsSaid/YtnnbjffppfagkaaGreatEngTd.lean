/- The table of types. -/
import Derived.Test.YtnnbjffppfagkaaGreatEng4
import Derived.Lib.LaidTab
import Derived.Lib.ItoaNum
import Derived.Test.YtnnbjffppfagkaaGreatProg
set_option linter.all false
set_option linter.unusedSimpArgs false
set_option linter.unusedVariables false
set_option linter.unusedSectionVars false
namespace Go.Ab
open Go
noncomputable abbrev P0 : Program := Go.Proofs.Tryz.prog
/-- What is known of the first memory. -/
def Kn0 (w0 : World) : Prop := w0.ShapedOpen P0 ∧ True
noncomputable instance gi0 : GI := ⟨fun w R => ∃ w0 : World, Kn0 w0 ∧ ∀ b, b < w0.heap.size → R b ∧ w.heap[b]? = w0.heap[b]?, fun {w w' R R'} h hR hm => by
  obtain ⟨w0, h1, h2⟩ := h
  refine ⟨w0, h1, fun b hb => ⟨hR b (h2 b hb).1, ?_⟩⟩
  have e := (h2 b hb).2
  have hlt : b < w.heap.size := by
    rw [Array.getElem?_eq_getElem hb] at e
    exact (Array.getElem?_eq_some_iff.1 e).1
  rw [hm b (h2 b hb).1 hlt, e]⟩
theorem gi_start {W : World} (h : Kn0 W) : GI.p W fun b => b < W.heap.size := ⟨W, h, fun _ hb => ⟨hb, rfl⟩⟩
theorem gi_cell {w0 w : World} {R : Nat → Prop} (h : ∀ b, b < w0.heap.size → R b ∧ w.heap[b]? = w0.heap[b]?) {a : Addr} {v : Value} (hc : w0.cell? a = some v) : w.cell? a = some v := by
  rw [World.cell?_of_block (h _ (World.block_lt_of_cell? _ _ hc)).2]; exact hc
theorem gi_var {w0 w : World} {R : Nat → Prop} (h : ∀ b, b < w0.heap.size → R b ∧ w.heap[b]? = w0.heap[b]?) {n : String} {cs : Array Value} (hc : w0.var? P0 n = some cs) : w.var? P0 n = some cs := by
  unfold World.var? at hc ⊢
  cases hg : P0.globalNamed n with
  | none => rw [hg] at hc; cases hc
  | some g =>
    rw [hg] at hc
    simp only [Option.bind_some] at hc ⊢
    have hlt : g < w0.heap.size := by
      rcases Nat.lt_or_ge g w0.heap.size with h' | h'
      · exact h'
      · simp [Array.getElem?_eq_none h'] at hc
    rw [(h g hlt).2]; exact hc
def td : TypeId → TD
  | 2 => .one (.int .i64 0)
  | 3 => .one (.int .i64 0)
  | 4 => .one (.bool false)
  | 5 => .one (.int .u8 0)
  | 6 => .one (.int .u8 0)
  | 7 => .st 4 [(0, 1, false), (1, 1, false), (2, 1, false), (3, 1, false)] [.int .i64 0, .int .i64 0, .bool false, .int .u8 0]
  | 8 => .st 4 [(0, 1, false), (1, 1, false), (2, 1, false), (3, 1, false)] [.int .i64 0, .int .i64 0, .bool false, .int .u8 0]
  | 9 => .one (.str [])
  | 10 => .one (.str [])
  | 11 => .one (.str [])
  | 12 => .one (.int .u64 0)
  | 13 => .st 2 [(0, 1, false), (1, 1, false)] [.str [], .int .u64 0]
  | 14 => .st 2 [(0, 1, false), (1, 1, false)] [.str [], .int .u64 0]
  | 15 => .one (.val (.pointer none))
  | 16 => .one (.val (.pointer none))
  | 17 => .one (.val (.pointer none))
  | 18 => .st 1 [(0, 1, false)] [.val (.pointer none)]
  | 19 => .st 1 [(0, 1, false)] [.val (.pointer none)]
  | 20 => .one (.val .nilIface)
  | 21 => .one (.int .i32 0)
  | 22 => .sl .node
  | 23 => .sl .rule
  | 24 => .sl .str
  | 25 => .st 9 [(0, 1, false), (1, 1, false), (2, 1, false), (3, 1, false), (4, 1, false), (5, 1, false), (6, 1, false), (7, 1, false), (8, 1, false)] [.bool false, .bool false, .nilS, .nilS, .nilS, .nilS, .nilS, .bool false, .bool false]
  | 26 => .st 9 [(0, 1, false), (1, 1, false), (2, 1, false), (3, 1, false), (4, 1, false), (5, 1, false), (6, 1, false), (7, 1, false), (8, 1, false)] [.bool false, .bool false, .nilS, .nilS, .nilS, .nilS, .nilS, .bool false, .bool false]
  | 31 => .sl .node
  | 33 => .sl .rule
  | 34 => .st 9 [(0, 1, false), (1, 1, false), (2, 1, false), (3, 1, false), (4, 1, false), (5, 1, false), (6, 1, false), (7, 1, false), (8, 1, false)] [.bool false, .bool false, .nilS, .nilS, .nilS, .nilS, .nilS, .bool false, .bool false]
  | 35 => .st 9 [(0, 1, false), (1, 1, false), (2, 1, false), (3, 1, false), (4, 1, false), (5, 1, false), (6, 1, false), (7, 1, false), (8, 1, false)] [.bool false, .bool false, .nilS, .nilS, .nilS, .nilS, .nilS, .bool false, .bool false]
  | 51 => .sl .attr
  | 52 => .st 6 [(0, 1, false), (1, 1, false), (2, 1, false), (3, 1, false), (4, 1, false), (5, 1, false)] [.int .i64 0, .int .i64 0, .str [], .str [], .nilS, .nilS]
  | 53 => .st 6 [(0, 1, false), (1, 1, false), (2, 1, false), (3, 1, false), (4, 1, false), (5, 1, false)] [.int .i64 0, .int .i64 0, .str [], .str [], .nilS, .nilS]
  | 57 => .sl .attr
  | 58 => .st 6 [(0, 1, false), (1, 1, false), (2, 1, false), (3, 1, false), (4, 1, false), (5, 1, false)] [.int .i64 0, .int .i64 0, .str [], .str [], .nilS, .nilS]
  | 59 => .st 6 [(0, 1, false), (1, 1, false), (2, 1, false), (3, 1, false), (4, 1, false), (5, 1, false)] [.int .i64 0, .int .i64 0, .str [], .str [], .nilS, .nilS]
  | 74 => .st 3 [(0, 1, false), (1, 1, false), (2, 1, false)] [.int .i64 0, .str [], .nilS]
  | 75 => .st 3 [(0, 1, false), (1, 1, false), (2, 1, false)] [.int .i64 0, .str [], .nilS]
  | 80 => .st 3 [(0, 1, false), (1, 1, false), (2, 1, false)] [.int .i64 0, .str [], .nilS]
  | 90 => .st 2 [(0, 1, false), (1, 1, false)] [.str [], .str []]
  | 91 => .st 2 [(0, 1, false), (1, 1, false)] [.str [], .str []]
  | 96 => .sl .int
  | 98 => .sl .u8
  | 101 => .st 2 [(0, 1, false), (1, 1, false)] [.str [], .str []]
  | 124 => .one (.val (.pointer none))
  | 144 => .one (.int .u64 0)
  | 145 => .one (.val (.pointer none))
  | 147 => .one (.int .u32 0)
  | 151 => .st 4 [(0, 1, false), (1, 1, false), (2, 1, false), (3, 1, false)] [.val (.pointer none), .val (.pointer none), .val (.pointer none), .str []]
  | 152 => .st 4 [(0, 1, false), (1, 1, false), (2, 1, false), (3, 1, false)] [.val (.pointer none), .val (.pointer none), .val (.pointer none), .str []]
  | 157 => .one (.int .u8 0)
  | 158 => .one (.int .u8 0)
  | 160 => .one (.val (.pointer none))
  | 161 => .one (.int .i32 0)
  | 162 => .one (.int .i32 0)
  | 163 => .st 11 [(0, 1, false), (1, 1, false), (2, 1, false), (3, 1, false), (4, 1, false), (5, 1, false), (6, 1, false), (7, 1, false), (8, 1, false), (9, 1, false), (10, 1, false)] [.int .u64 0, .int .u64 0, .int .u32 0, .int .u8 0, .int .u8 0, .int .u8 0, .int .u8 0, .val .nilFunc, .val (.pointer none), .int .i32 0, .int .i32 0]
  | 164 => .st 11 [(0, 1, false), (1, 1, false), (2, 1, false), (3, 1, false), (4, 1, false), (5, 1, false), (6, 1, false), (7, 1, false), (8, 1, false), (9, 1, false), (10, 1, false)] [.int .u64 0, .int .u64 0, .int .u32 0, .int .u8 0, .int .u8 0, .int .u8 0, .int .u8 0, .val .nilFunc, .val (.pointer none), .int .i32 0, .int .i32 0]
  | _ => .unk
@[push_cast] theorem td_2 : td 2 = .one (.int .i64 0) := rfl
@[push_cast] theorem td_3 : td 3 = .one (.int .i64 0) := rfl
@[push_cast] theorem td_4 : td 4 = .one (.bool false) := rfl
@[push_cast] theorem td_5 : td 5 = .one (.int .u8 0) := rfl
@[push_cast] theorem td_6 : td 6 = .one (.int .u8 0) := rfl
@[push_cast] theorem td_7 : td 7 = .st 4 [(0, 1, false), (1, 1, false), (2, 1, false), (3, 1, false)] [.int .i64 0, .int .i64 0, .bool false, .int .u8 0] := rfl
@[push_cast] theorem td_8 : td 8 = .st 4 [(0, 1, false), (1, 1, false), (2, 1, false), (3, 1, false)] [.int .i64 0, .int .i64 0, .bool false, .int .u8 0] := rfl
@[push_cast] theorem td_9 : td 9 = .one (.str []) := rfl
@[push_cast] theorem td_10 : td 10 = .one (.str []) := rfl
@[push_cast] theorem td_11 : td 11 = .one (.str []) := rfl
@[push_cast] theorem td_12 : td 12 = .one (.int .u64 0) := rfl
@[push_cast] theorem td_13 : td 13 = .st 2 [(0, 1, false), (1, 1, false)] [.str [], .int .u64 0] := rfl
@[push_cast] theorem td_14 : td 14 = .st 2 [(0, 1, false), (1, 1, false)] [.str [], .int .u64 0] := rfl
@[push_cast] theorem td_15 : td 15 = .one (.val (.pointer none)) := rfl
@[push_cast] theorem td_16 : td 16 = .one (.val (.pointer none)) := rfl
@[push_cast] theorem td_17 : td 17 = .one (.val (.pointer none)) := rfl
@[push_cast] theorem td_18 : td 18 = .st 1 [(0, 1, false)] [.val (.pointer none)] := rfl
@[push_cast] theorem td_19 : td 19 = .st 1 [(0, 1, false)] [.val (.pointer none)] := rfl
@[push_cast] theorem td_20 : td 20 = .one (.val .nilIface) := rfl
@[push_cast] theorem td_21 : td 21 = .one (.int .i32 0) := rfl
@[push_cast] theorem td_22 : td 22 = .sl .node := rfl
@[push_cast] theorem td_23 : td 23 = .sl .rule := rfl
@[push_cast] theorem td_24 : td 24 = .sl .str := rfl
@[push_cast] theorem td_25 : td 25 = .st 9 [(0, 1, false), (1, 1, false), (2, 1, false), (3, 1, false), (4, 1, false), (5, 1, false), (6, 1, false), (7, 1, false), (8, 1, false)] [.bool false, .bool false, .nilS, .nilS, .nilS, .nilS, .nilS, .bool false, .bool false] := rfl
@[push_cast] theorem td_26 : td 26 = .st 9 [(0, 1, false), (1, 1, false), (2, 1, false), (3, 1, false), (4, 1, false), (5, 1, false), (6, 1, false), (7, 1, false), (8, 1, false)] [.bool false, .bool false, .nilS, .nilS, .nilS, .nilS, .nilS, .bool false, .bool false] := rfl
@[push_cast] theorem td_31 : td 31 = .sl .node := rfl
@[push_cast] theorem td_33 : td 33 = .sl .rule := rfl
@[push_cast] theorem td_34 : td 34 = .st 9 [(0, 1, false), (1, 1, false), (2, 1, false), (3, 1, false), (4, 1, false), (5, 1, false), (6, 1, false), (7, 1, false), (8, 1, false)] [.bool false, .bool false, .nilS, .nilS, .nilS, .nilS, .nilS, .bool false, .bool false] := rfl
@[push_cast] theorem td_35 : td 35 = .st 9 [(0, 1, false), (1, 1, false), (2, 1, false), (3, 1, false), (4, 1, false), (5, 1, false), (6, 1, false), (7, 1, false), (8, 1, false)] [.bool false, .bool false, .nilS, .nilS, .nilS, .nilS, .nilS, .bool false, .bool false] := rfl
@[push_cast] theorem td_51 : td 51 = .sl .attr := rfl
@[push_cast] theorem td_52 : td 52 = .st 6 [(0, 1, false), (1, 1, false), (2, 1, false), (3, 1, false), (4, 1, false), (5, 1, false)] [.int .i64 0, .int .i64 0, .str [], .str [], .nilS, .nilS] := rfl
@[push_cast] theorem td_53 : td 53 = .st 6 [(0, 1, false), (1, 1, false), (2, 1, false), (3, 1, false), (4, 1, false), (5, 1, false)] [.int .i64 0, .int .i64 0, .str [], .str [], .nilS, .nilS] := rfl
@[push_cast] theorem td_57 : td 57 = .sl .attr := rfl
@[push_cast] theorem td_58 : td 58 = .st 6 [(0, 1, false), (1, 1, false), (2, 1, false), (3, 1, false), (4, 1, false), (5, 1, false)] [.int .i64 0, .int .i64 0, .str [], .str [], .nilS, .nilS] := rfl
@[push_cast] theorem td_59 : td 59 = .st 6 [(0, 1, false), (1, 1, false), (2, 1, false), (3, 1, false), (4, 1, false), (5, 1, false)] [.int .i64 0, .int .i64 0, .str [], .str [], .nilS, .nilS] := rfl
@[push_cast] theorem td_74 : td 74 = .st 3 [(0, 1, false), (1, 1, false), (2, 1, false)] [.int .i64 0, .str [], .nilS] := rfl
@[push_cast] theorem td_75 : td 75 = .st 3 [(0, 1, false), (1, 1, false), (2, 1, false)] [.int .i64 0, .str [], .nilS] := rfl
@[push_cast] theorem td_80 : td 80 = .st 3 [(0, 1, false), (1, 1, false), (2, 1, false)] [.int .i64 0, .str [], .nilS] := rfl
@[push_cast] theorem td_90 : td 90 = .st 2 [(0, 1, false), (1, 1, false)] [.str [], .str []] := rfl
@[push_cast] theorem td_91 : td 91 = .st 2 [(0, 1, false), (1, 1, false)] [.str [], .str []] := rfl
@[push_cast] theorem td_96 : td 96 = .sl .int := rfl
@[push_cast] theorem td_98 : td 98 = .sl .u8 := rfl
@[push_cast] theorem td_101 : td 101 = .st 2 [(0, 1, false), (1, 1, false)] [.str [], .str []] := rfl
@[push_cast] theorem td_124 : td 124 = .one (.val (.pointer none)) := rfl
@[push_cast] theorem td_144 : td 144 = .one (.int .u64 0) := rfl
@[push_cast] theorem td_145 : td 145 = .one (.val (.pointer none)) := rfl
@[push_cast] theorem td_147 : td 147 = .one (.int .u32 0) := rfl
@[push_cast] theorem td_151 : td 151 = .st 4 [(0, 1, false), (1, 1, false), (2, 1, false), (3, 1, false)] [.val (.pointer none), .val (.pointer none), .val (.pointer none), .str []] := rfl
@[push_cast] theorem td_152 : td 152 = .st 4 [(0, 1, false), (1, 1, false), (2, 1, false), (3, 1, false)] [.val (.pointer none), .val (.pointer none), .val (.pointer none), .str []] := rfl
@[push_cast] theorem td_157 : td 157 = .one (.int .u8 0) := rfl
@[push_cast] theorem td_158 : td 158 = .one (.int .u8 0) := rfl
@[push_cast] theorem td_160 : td 160 = .one (.val (.pointer none)) := rfl
@[push_cast] theorem td_161 : td 161 = .one (.int .i32 0) := rfl
@[push_cast] theorem td_162 : td 162 = .one (.int .i32 0) := rfl
@[push_cast] theorem td_163 : td 163 = .st 11 [(0, 1, false), (1, 1, false), (2, 1, false), (3, 1, false), (4, 1, false), (5, 1, false), (6, 1, false), (7, 1, false), (8, 1, false), (9, 1, false), (10, 1, false)] [.int .u64 0, .int .u64 0, .int .u32 0, .int .u8 0, .int .u8 0, .int .u8 0, .int .u8 0, .val .nilFunc, .val (.pointer none), .int .i32 0, .int .i32 0] := rfl
@[push_cast] theorem td_164 : td 164 = .st 11 [(0, 1, false), (1, 1, false), (2, 1, false), (3, 1, false), (4, 1, false), (5, 1, false), (6, 1, false), (7, 1, false), (8, 1, false), (9, 1, false), (10, 1, false)] [.int .u64 0, .int .u64 0, .int .u32 0, .int .u8 0, .int .u8 0, .int .u8 0, .int .u8 0, .val .nilFunc, .val (.pointer none), .int .i32 0, .int .i32 0] := rfl
theorem tdok_2 (E : Env) : TDok P0 E 2 (.one (.int .i64 0)) := ⟨.int .i64, .int .i64 0, by kernel_rfl, by kernel_rfl, rfl, rfl, rfl⟩
theorem tdok_3 (E : Env) : TDok P0 E 3 (.one (.int .i64 0)) := ⟨.int .i64, .int .i64 0, by kernel_rfl, by kernel_rfl, rfl, rfl, rfl⟩
theorem tdok_4 (E : Env) : TDok P0 E 4 (.one (.bool false)) := ⟨.bool, .bool false, by kernel_rfl, by kernel_rfl, rfl, rfl, rfl⟩
theorem tdok_5 (E : Env) : TDok P0 E 5 (.one (.int .u8 0)) := ⟨.int .u8, .int .u8 0, by kernel_rfl, by kernel_rfl, rfl, rfl, rfl⟩
theorem tdok_6 (E : Env) : TDok P0 E 6 (.one (.int .u8 0)) := ⟨.int .u8, .int .u8 0, by kernel_rfl, by kernel_rfl, rfl, rfl, rfl⟩
theorem tdok_7 (E : Env) : TDok P0 E 7 (.st 4 [(0, 1, false), (1, 1, false), (2, 1, false), (3, 1, false)] [.int .i64 0, .int .i64 0, .bool false, .int .u8 0]) := ⟨#[.int .i64 0, .int .i64 0, .bool false, .int .u8 0], by kernel_rfl, by kernel_rfl, rfl, rfl⟩
theorem tdok_8 (E : Env) : TDok P0 E 8 (.st 4 [(0, 1, false), (1, 1, false), (2, 1, false), (3, 1, false)] [.int .i64 0, .int .i64 0, .bool false, .int .u8 0]) := ⟨#[.int .i64 0, .int .i64 0, .bool false, .int .u8 0], by kernel_rfl, by kernel_rfl, rfl, rfl⟩
theorem tdok_9 (E : Env) : TDok P0 E 9 (.one (.str [])) := ⟨.string, .string ⟨#[]⟩, by kernel_rfl, by kernel_rfl, rfl, rfl, rfl⟩
theorem tdok_10 (E : Env) : TDok P0 E 10 (.one (.str [])) := ⟨.string, .string ⟨#[]⟩, by kernel_rfl, by kernel_rfl, rfl, rfl, rfl⟩
theorem tdok_11 (E : Env) : TDok P0 E 11 (.one (.str [])) := ⟨.string, .string ⟨#[]⟩, by kernel_rfl, by kernel_rfl, rfl, rfl, rfl⟩
theorem tdok_12 (E : Env) : TDok P0 E 12 (.one (.int .u64 0)) := ⟨.int .u64, .int .u64 0, by kernel_rfl, by kernel_rfl, rfl, rfl, rfl⟩
theorem tdok_13 (E : Env) : TDok P0 E 13 (.st 2 [(0, 1, false), (1, 1, false)] [.str [], .int .u64 0]) := ⟨#[.string ⟨#[]⟩, .int .u64 0], by kernel_rfl, by kernel_rfl, rfl, rfl⟩
theorem tdok_14 (E : Env) : TDok P0 E 14 (.st 2 [(0, 1, false), (1, 1, false)] [.str [], .int .u64 0]) := ⟨#[.string ⟨#[]⟩, .int .u64 0], by kernel_rfl, by kernel_rfl, rfl, rfl⟩
theorem tdok_15 (E : Env) : TDok P0 E 15 (.one (.val (.pointer none))) := ⟨.pointer 152, .pointer none, by kernel_rfl, by kernel_rfl, rfl, rfl, ⟨_, rfl⟩⟩
theorem tdok_16 (E : Env) : TDok P0 E 16 (.one (.val (.pointer none))) := ⟨.pointer 155, .pointer none, by kernel_rfl, by kernel_rfl, rfl, rfl, ⟨_, rfl⟩⟩
theorem tdok_17 (E : Env) : TDok P0 E 17 (.one (.val (.pointer none))) := ⟨.pointer 164, .pointer none, by kernel_rfl, by kernel_rfl, rfl, rfl, ⟨_, rfl⟩⟩
theorem tdok_18 (E : Env) : TDok P0 E 18 (.st 1 [(0, 1, false)] [.val (.pointer none)]) := ⟨#[.pointer none], by kernel_rfl, by kernel_rfl, rfl, rfl⟩
theorem tdok_19 (E : Env) : TDok P0 E 19 (.st 1 [(0, 1, false)] [.val (.pointer none)]) := ⟨#[.pointer none], by kernel_rfl, by kernel_rfl, rfl, rfl⟩
theorem tdok_20 (E : Env) : TDok P0 E 20 (.one (.val .nilIface)) := ⟨.interface #[], .nilIface, by kernel_rfl, by kernel_rfl, rfl, rfl, ⟨_, rfl⟩⟩
theorem tdok_21 (E : Env) : TDok P0 E 21 (.one (.int .i32 0)) := ⟨.int .i32, .int .i32 0, by kernel_rfl, by kernel_rfl, rfl, rfl, rfl⟩
theorem tdok_22 (E : Env) : TDok P0 E 22 (.sl .node) := ⟨53, by kernel_rfl, by kernel_rfl, by kernel_rfl, (fun h => by cases h), .agg #[.int .i64 0, .int .i64 0, .string ⟨#[]⟩, .string ⟨#[]⟩, .slice none 0 0, .slice none 0 0], 96, by kernel_rfl, by decide, by decide, rfl⟩
theorem tdok_23 (E : Env) : TDok P0 E 23 (.sl .rule) := ⟨75, by kernel_rfl, by kernel_rfl, by kernel_rfl, (fun h => by cases h), .agg #[.int .i64 0, .string ⟨#[]⟩, .slice none 0 0], 48, by kernel_rfl, by decide, by decide, rfl⟩
theorem tdok_24 (E : Env) : TDok P0 E 24 (.sl .str) := ⟨9, by kernel_rfl, by kernel_rfl, by kernel_rfl, (fun h => by cases h), .string ⟨#[]⟩, 16, by kernel_rfl, by decide, by decide, rfl⟩
theorem tdok_25 (E : Env) : TDok P0 E 25 (.st 9 [(0, 1, false), (1, 1, false), (2, 1, false), (3, 1, false), (4, 1, false), (5, 1, false), (6, 1, false), (7, 1, false), (8, 1, false)] [.bool false, .bool false, .nilS, .nilS, .nilS, .nilS, .nilS, .bool false, .bool false]) := ⟨#[.bool false, .bool false, .slice none 0 0, .slice none 0 0, .slice none 0 0, .slice none 0 0, .slice none 0 0, .bool false, .bool false], by kernel_rfl, by kernel_rfl, rfl, rfl⟩
theorem tdok_26 (E : Env) : TDok P0 E 26 (.st 9 [(0, 1, false), (1, 1, false), (2, 1, false), (3, 1, false), (4, 1, false), (5, 1, false), (6, 1, false), (7, 1, false), (8, 1, false)] [.bool false, .bool false, .nilS, .nilS, .nilS, .nilS, .nilS, .bool false, .bool false]) := ⟨#[.bool false, .bool false, .slice none 0 0, .slice none 0 0, .slice none 0 0, .slice none 0 0, .slice none 0 0, .bool false, .bool false], by kernel_rfl, by kernel_rfl, rfl, rfl⟩
theorem tdok_31 (E : Env) : TDok P0 E 31 (.sl .node) := ⟨59, by kernel_rfl, by kernel_rfl, by kernel_rfl, (fun h => by cases h), .agg #[.int .i64 0, .int .i64 0, .string ⟨#[]⟩, .string ⟨#[]⟩, .slice none 0 0, .slice none 0 0], 96, by kernel_rfl, by decide, by decide, rfl⟩
theorem tdok_33 (E : Env) : TDok P0 E 33 (.sl .rule) := ⟨80, by kernel_rfl, by kernel_rfl, by kernel_rfl, (fun h => by cases h), .agg #[.int .i64 0, .string ⟨#[]⟩, .slice none 0 0], 48, by kernel_rfl, by decide, by decide, rfl⟩
theorem tdok_34 (E : Env) : TDok P0 E 34 (.st 9 [(0, 1, false), (1, 1, false), (2, 1, false), (3, 1, false), (4, 1, false), (5, 1, false), (6, 1, false), (7, 1, false), (8, 1, false)] [.bool false, .bool false, .nilS, .nilS, .nilS, .nilS, .nilS, .bool false, .bool false]) := ⟨#[.bool false, .bool false, .slice none 0 0, .slice none 0 0, .slice none 0 0, .slice none 0 0, .slice none 0 0, .bool false, .bool false], by kernel_rfl, by kernel_rfl, rfl, rfl⟩
theorem tdok_35 (E : Env) : TDok P0 E 35 (.st 9 [(0, 1, false), (1, 1, false), (2, 1, false), (3, 1, false), (4, 1, false), (5, 1, false), (6, 1, false), (7, 1, false), (8, 1, false)] [.bool false, .bool false, .nilS, .nilS, .nilS, .nilS, .nilS, .bool false, .bool false]) := ⟨#[.bool false, .bool false, .slice none 0 0, .slice none 0 0, .slice none 0 0, .slice none 0 0, .slice none 0 0, .bool false, .bool false], by kernel_rfl, by kernel_rfl, rfl, rfl⟩
theorem tdok_51 (E : Env) : TDok P0 E 51 (.sl .attr) := ⟨101, by kernel_rfl, by kernel_rfl, by kernel_rfl, (fun h => by cases h), .agg #[.string ⟨#[]⟩, .string ⟨#[]⟩], 32, by kernel_rfl, by decide, by decide, rfl⟩
theorem tdok_52 (E : Env) : TDok P0 E 52 (.st 6 [(0, 1, false), (1, 1, false), (2, 1, false), (3, 1, false), (4, 1, false), (5, 1, false)] [.int .i64 0, .int .i64 0, .str [], .str [], .nilS, .nilS]) := ⟨#[.int .i64 0, .int .i64 0, .string ⟨#[]⟩, .string ⟨#[]⟩, .slice none 0 0, .slice none 0 0], by kernel_rfl, by kernel_rfl, rfl, rfl⟩
theorem tdok_53 (E : Env) : TDok P0 E 53 (.st 6 [(0, 1, false), (1, 1, false), (2, 1, false), (3, 1, false), (4, 1, false), (5, 1, false)] [.int .i64 0, .int .i64 0, .str [], .str [], .nilS, .nilS]) := ⟨#[.int .i64 0, .int .i64 0, .string ⟨#[]⟩, .string ⟨#[]⟩, .slice none 0 0, .slice none 0 0], by kernel_rfl, by kernel_rfl, rfl, rfl⟩
theorem tdok_57 (E : Env) : TDok P0 E 57 (.sl .attr) := ⟨91, by kernel_rfl, by kernel_rfl, by kernel_rfl, (fun h => by cases h), .agg #[.string ⟨#[]⟩, .string ⟨#[]⟩], 32, by kernel_rfl, by decide, by decide, rfl⟩
theorem tdok_58 (E : Env) : TDok P0 E 58 (.st 6 [(0, 1, false), (1, 1, false), (2, 1, false), (3, 1, false), (4, 1, false), (5, 1, false)] [.int .i64 0, .int .i64 0, .str [], .str [], .nilS, .nilS]) := ⟨#[.int .i64 0, .int .i64 0, .string ⟨#[]⟩, .string ⟨#[]⟩, .slice none 0 0, .slice none 0 0], by kernel_rfl, by kernel_rfl, rfl, rfl⟩
theorem tdok_59 (E : Env) : TDok P0 E 59 (.st 6 [(0, 1, false), (1, 1, false), (2, 1, false), (3, 1, false), (4, 1, false), (5, 1, false)] [.int .i64 0, .int .i64 0, .str [], .str [], .nilS, .nilS]) := ⟨#[.int .i64 0, .int .i64 0, .string ⟨#[]⟩, .string ⟨#[]⟩, .slice none 0 0, .slice none 0 0], by kernel_rfl, by kernel_rfl, rfl, rfl⟩
theorem tdok_74 (E : Env) : TDok P0 E 74 (.st 3 [(0, 1, false), (1, 1, false), (2, 1, false)] [.int .i64 0, .str [], .nilS]) := ⟨#[.int .i64 0, .string ⟨#[]⟩, .slice none 0 0], by kernel_rfl, by kernel_rfl, rfl, rfl⟩
theorem tdok_75 (E : Env) : TDok P0 E 75 (.st 3 [(0, 1, false), (1, 1, false), (2, 1, false)] [.int .i64 0, .str [], .nilS]) := ⟨#[.int .i64 0, .string ⟨#[]⟩, .slice none 0 0], by kernel_rfl, by kernel_rfl, rfl, rfl⟩
theorem tdok_80 (E : Env) : TDok P0 E 80 (.st 3 [(0, 1, false), (1, 1, false), (2, 1, false)] [.int .i64 0, .str [], .nilS]) := ⟨#[.int .i64 0, .string ⟨#[]⟩, .slice none 0 0], by kernel_rfl, by kernel_rfl, rfl, rfl⟩
theorem tdok_90 (E : Env) : TDok P0 E 90 (.st 2 [(0, 1, false), (1, 1, false)] [.str [], .str []]) := ⟨#[.string ⟨#[]⟩, .string ⟨#[]⟩], by kernel_rfl, by kernel_rfl, rfl, rfl⟩
theorem tdok_91 (E : Env) : TDok P0 E 91 (.st 2 [(0, 1, false), (1, 1, false)] [.str [], .str []]) := ⟨#[.string ⟨#[]⟩, .string ⟨#[]⟩], by kernel_rfl, by kernel_rfl, rfl, rfl⟩
theorem tdok_96 (E : Env) : TDok P0 E 96 (.sl .int) := ⟨3, by kernel_rfl, by kernel_rfl, by kernel_rfl, (fun h => by cases h), .int .i64 0, 8, by kernel_rfl, by decide, by decide, rfl⟩
theorem tdok_98 (E : Env) : TDok P0 E 98 (.sl .u8) := ⟨5, by kernel_rfl, by kernel_rfl, by kernel_rfl, (fun _ => by kernel_rfl), .int .u8 0, 1, by kernel_rfl, by decide, by decide, rfl⟩
theorem tdok_101 (E : Env) : TDok P0 E 101 (.st 2 [(0, 1, false), (1, 1, false)] [.str [], .str []]) := ⟨#[.string ⟨#[]⟩, .string ⟨#[]⟩], by kernel_rfl, by kernel_rfl, rfl, rfl⟩
theorem tdok_124 (E : Env) : TDok P0 E 124 (.one (.val (.pointer none))) := ⟨.pointer 3, .pointer none, by kernel_rfl, by kernel_rfl, rfl, rfl, ⟨_, rfl⟩⟩
theorem tdok_144 (E : Env) : TDok P0 E 144 (.one (.int .u64 0)) := ⟨.int .u64, .int .u64 0, by kernel_rfl, by kernel_rfl, rfl, rfl, rfl⟩
theorem tdok_145 (E : Env) : TDok P0 E 145 (.one (.val (.pointer none))) := ⟨.pointer 136, .pointer none, by kernel_rfl, by kernel_rfl, rfl, rfl, ⟨_, rfl⟩⟩
theorem tdok_147 (E : Env) : TDok P0 E 147 (.one (.int .u32 0)) := ⟨.int .u32, .int .u32 0, by kernel_rfl, by kernel_rfl, rfl, rfl, rfl⟩
theorem tdok_151 (E : Env) : TDok P0 E 151 (.st 4 [(0, 1, false), (1, 1, false), (2, 1, false), (3, 1, false)] [.val (.pointer none), .val (.pointer none), .val (.pointer none), .str []]) := ⟨#[.pointer none, .pointer none, .pointer none, .string ⟨#[]⟩], by kernel_rfl, by kernel_rfl, rfl, rfl⟩
theorem tdok_152 (E : Env) : TDok P0 E 152 (.st 4 [(0, 1, false), (1, 1, false), (2, 1, false), (3, 1, false)] [.val (.pointer none), .val (.pointer none), .val (.pointer none), .str []]) := ⟨#[.pointer none, .pointer none, .pointer none, .string ⟨#[]⟩], by kernel_rfl, by kernel_rfl, rfl, rfl⟩
theorem tdok_157 (E : Env) : TDok P0 E 157 (.one (.int .u8 0)) := ⟨.int .u8, .int .u8 0, by kernel_rfl, by kernel_rfl, rfl, rfl, rfl⟩
theorem tdok_158 (E : Env) : TDok P0 E 158 (.one (.int .u8 0)) := ⟨.int .u8, .int .u8 0, by kernel_rfl, by kernel_rfl, rfl, rfl, rfl⟩
theorem tdok_160 (E : Env) : TDok P0 E 160 (.one (.val (.pointer none))) := ⟨.pointer 5, .pointer none, by kernel_rfl, by kernel_rfl, rfl, rfl, ⟨_, rfl⟩⟩
theorem tdok_161 (E : Env) : TDok P0 E 161 (.one (.int .i32 0)) := ⟨.int .i32, .int .i32 0, by kernel_rfl, by kernel_rfl, rfl, rfl, rfl⟩
theorem tdok_162 (E : Env) : TDok P0 E 162 (.one (.int .i32 0)) := ⟨.int .i32, .int .i32 0, by kernel_rfl, by kernel_rfl, rfl, rfl, rfl⟩
theorem tdok_163 (E : Env) : TDok P0 E 163 (.st 11 [(0, 1, false), (1, 1, false), (2, 1, false), (3, 1, false), (4, 1, false), (5, 1, false), (6, 1, false), (7, 1, false), (8, 1, false), (9, 1, false), (10, 1, false)] [.int .u64 0, .int .u64 0, .int .u32 0, .int .u8 0, .int .u8 0, .int .u8 0, .int .u8 0, .val .nilFunc, .val (.pointer none), .int .i32 0, .int .i32 0]) := ⟨#[.int .u64 0, .int .u64 0, .int .u32 0, .int .u8 0, .int .u8 0, .int .u8 0, .int .u8 0, .nilFunc, .pointer none, .int .i32 0, .int .i32 0], by kernel_rfl, by kernel_rfl, rfl, rfl⟩
theorem tdok_164 (E : Env) : TDok P0 E 164 (.st 11 [(0, 1, false), (1, 1, false), (2, 1, false), (3, 1, false), (4, 1, false), (5, 1, false), (6, 1, false), (7, 1, false), (8, 1, false), (9, 1, false), (10, 1, false)] [.int .u64 0, .int .u64 0, .int .u32 0, .int .u8 0, .int .u8 0, .int .u8 0, .int .u8 0, .val .nilFunc, .val (.pointer none), .int .i32 0, .int .i32 0]) := ⟨#[.int .u64 0, .int .u64 0, .int .u32 0, .int .u8 0, .int .u8 0, .int .u8 0, .int .u8 0, .nilFunc, .pointer none, .int .i32 0, .int .i32 0], by kernel_rfl, by kernel_rfl, rfl, rfl⟩
theorem tdok (E : Env) (t : TypeId) : TDok P0 E t (td t) := by
  unfold td
  split
  · exact tdok_2 E
  · exact tdok_3 E
  · exact tdok_4 E
  · exact tdok_5 E
  · exact tdok_6 E
  · exact tdok_7 E
  · exact tdok_8 E
  · exact tdok_9 E
  · exact tdok_10 E
  · exact tdok_11 E
  · exact tdok_12 E
  · exact tdok_13 E
  · exact tdok_14 E
  · exact tdok_15 E
  · exact tdok_16 E
  · exact tdok_17 E
  · exact tdok_18 E
  · exact tdok_19 E
  · exact tdok_20 E
  · exact tdok_21 E
  · exact tdok_22 E
  · exact tdok_23 E
  · exact tdok_24 E
  · exact tdok_25 E
  · exact tdok_26 E
  · exact tdok_31 E
  · exact tdok_33 E
  · exact tdok_34 E
  · exact tdok_35 E
  · exact tdok_51 E
  · exact tdok_52 E
  · exact tdok_53 E
  · exact tdok_57 E
  · exact tdok_58 E
  · exact tdok_59 E
  · exact tdok_74 E
  · exact tdok_75 E
  · exact tdok_80 E
  · exact tdok_90 E
  · exact tdok_91 E
  · exact tdok_96 E
  · exact tdok_98 E
  · exact tdok_101 E
  · exact tdok_124 E
  · exact tdok_144 E
  · exact tdok_145 E
  · exact tdok_147 E
  · exact tdok_151 E
  · exact tdok_152 E
  · exact tdok_157 E
  · exact tdok_158 E
  · exact tdok_160 E
  · exact tdok_161 E
  · exact tdok_162 E
  · exact tdok_163 E
  · exact tdok_164 E
  · trivial
def eqt : TypeId → Bool
  | 90 => true
  | 91 => true
  | 101 => true
  | _ => false
@[push_cast] theorem eqt_90 : eqt 90 = true := rfl
@[push_cast] theorem eqt_91 : eqt 91 = true := rfl
@[push_cast] theorem eqt_101 : eqt 101 = true := rfl
theorem eqt_ok (t : TypeId) (h : eqt t = true) : EqS P0 t := by
  unfold eqt at h
  split at h
  · exact eqS_ofB (by kernel_rfl)
  · exact eqS_ofB (by kernel_rfl)
  · exact eqS_ofB (by kernel_rfl)
  · cases h
def ety0 : K → TypeId := fun _ => 0
def mk (l : List (FuncId × Spec)) (d : List (Nat × List Nat × List (List Nat))) (g : List (Nat × List Gho) := []) (il : List (FuncId × Inl) := []) (fd : Option FuncId := none) : Env := ⟨td, ety0, calOf l, drOf d, eqt, ghOf g, inlF il, fndF fd⟩
theorem mixed : P0.follows .mixedOrders = true := by kernel_rfl
theorem mkOk {l : List (FuncId × Spec)} {d : List (Nat × List Nat × List (List Nat))} {g : List (Nat × List Gho)} {il : List (FuncId × Inl)} {fd : Option FuncId} (h : Rows P0 ety0 l) (hi : Inls P0 il := by exact .nil) (hf : Fnds P0 fd := by exact .nil) : EnvOk P0 (mk l d g il fd) := EnvOk.of mixed tdok h _ _ eqt_ok _ _ hi.get _ hf.get
end Go.Ab
