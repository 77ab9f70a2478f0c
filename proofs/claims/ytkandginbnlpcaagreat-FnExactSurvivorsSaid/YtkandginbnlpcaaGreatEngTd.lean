/- The table of types. -/
import Derived.Test.YtkandginbnlpcaaGreatEng3
import Derived.Test.YtkandginbnlpcaaGreatProg
namespace Go.Ab
open Go
noncomputable abbrev P0 : Program := Go.Proofs.Tryz.prog
noncomputable instance gi0 : GI := ⟨fun w R => ∃ w0 : World, w0.ShapedOpen P0 ∧ ∀ b, b < w0.heap.size → R b ∧ w.heap[b]? = w0.heap[b]?, fun {w w' R R'} h hR hm => by
  obtain ⟨w0, h1, h2⟩ := h
  refine ⟨w0, h1, fun b hb => ⟨hR b (h2 b hb).1, ?_⟩⟩
  have e := (h2 b hb).2
  have hlt : b < w.heap.size := by
    rw [Array.getElem?_eq_getElem hb] at e
    exact (Array.getElem?_eq_some_iff.1 e).1
  rw [hm b (h2 b hb).1 hlt, e]⟩
def td : TypeId → TD
  | 2 => .one (.int .i64 0)
  | 3 => .one (.int .i64 0)
  | 4 => .one (.bool false)
  | 5 => .one (.int .u8 0)
  | 6 => .one (.int .u8 0)
  | 7 => .st 4 [(0, 1, false), (1, 1, false), (2, 1, false), (3, 1, false)] [.int .i64 0, .int .i64 0, .bool false, .int .u8 0]
  | 8 => .st 4 [(0, 1, false), (1, 1, false), (2, 1, false), (3, 1, false)] [.int .i64 0, .int .i64 0, .bool false, .int .u8 0]
  | 9 => .one (.str [])
  | 10 => .one (.str [])
  | 11 => .one (.str [])
  | 12 => .one (.int .u64 0)
  | 13 => .st 2 [(0, 1, false), (1, 1, false)] [.str [], .int .u64 0]
  | 14 => .st 2 [(0, 1, false), (1, 1, false)] [.str [], .int .u64 0]
  | 15 => .one (.val (.pointer none))
  | 16 => .one (.val (.pointer none))
  | 17 => .one (.val (.pointer none))
  | 18 => .st 1 [(0, 1, false)] [.val (.pointer none)]
  | 19 => .st 1 [(0, 1, false)] [.val (.pointer none)]
  | 21 => .one (.int .i32 0)
  | 22 => .sl .node
  | 23 => .sl .rule
  | 24 => .sl .str
  | 25 => .st 9 [(0, 1, false), (1, 1, false), (2, 1, false), (3, 1, false), (4, 1, false), (5, 1, false), (6, 1, false), (7, 1, false), (8, 1, false)] [.bool false, .bool false, .nilS, .nilS, .nilS, .nilS, .nilS, .bool false, .bool false]
  | 26 => .st 9 [(0, 1, false), (1, 1, false), (2, 1, false), (3, 1, false), (4, 1, false), (5, 1, false), (6, 1, false), (7, 1, false), (8, 1, false)] [.bool false, .bool false, .nilS, .nilS, .nilS, .nilS, .nilS, .bool false, .bool false]
  | 31 => .sl .node
  | 33 => .sl .rule
  | 34 => .st 9 [(0, 1, false), (1, 1, false), (2, 1, false), (3, 1, false), (4, 1, false), (5, 1, false), (6, 1, false), (7, 1, false), (8, 1, false)] [.bool false, .bool false, .nilS, .nilS, .nilS, .nilS, .nilS, .bool false, .bool false]
  | 35 => .st 9 [(0, 1, false), (1, 1, false), (2, 1, false), (3, 1, false), (4, 1, false), (5, 1, false), (6, 1, false), (7, 1, false), (8, 1, false)] [.bool false, .bool false, .nilS, .nilS, .nilS, .nilS, .nilS, .bool false, .bool false]
  | 50 => .sl .attr
  | 51 => .st 6 [(0, 1, false), (1, 1, false), (2, 1, false), (3, 1, false), (4, 1, false), (5, 1, false)] [.int .i64 0, .int .i64 0, .str [], .str [], .nilS, .nilS]
  | 52 => .st 6 [(0, 1, false), (1, 1, false), (2, 1, false), (3, 1, false), (4, 1, false), (5, 1, false)] [.int .i64 0, .int .i64 0, .str [], .str [], .nilS, .nilS]
  | 57 => .sl .attr
  | 58 => .st 6 [(0, 1, false), (1, 1, false), (2, 1, false), (3, 1, false), (4, 1, false), (5, 1, false)] [.int .i64 0, .int .i64 0, .str [], .str [], .nilS, .nilS]
  | 59 => .st 6 [(0, 1, false), (1, 1, false), (2, 1, false), (3, 1, false), (4, 1, false), (5, 1, false)] [.int .i64 0, .int .i64 0, .str [], .str [], .nilS, .nilS]
  | 73 => .st 3 [(0, 1, false), (1, 1, false), (2, 1, false)] [.int .i64 0, .str [], .nilS]
  | 74 => .st 3 [(0, 1, false), (1, 1, false), (2, 1, false)] [.int .i64 0, .str [], .nilS]
  | 82 => .st 3 [(0, 1, false), (1, 1, false), (2, 1, false)] [.int .i64 0, .str [], .nilS]
  | 89 => .sl .int
  | 96 => .st 2 [(0, 1, false), (1, 1, false)] [.str [], .str []]
  | 97 => .st 2 [(0, 1, false), (1, 1, false)] [.str [], .str []]
  | 102 => .sl .u8
  | 112 => .one (.int .u64 0)
  | 119 => .st 2 [(0, 1, false), (1, 1, false)] [.str [], .str []]
  | 136 => .one (.int .i64 0)
  | 144 => .one (.int .u32 0)
  | 146 => .one (.int .u64 0)
  | 154 => .one (.val (.pointer none))
  | 158 => .one (.int .u64 0)
  | 174 => .one (.val (.pointer none))
  | 183 => .one (.val (.pointer none))
  | 189 => .st 4 [(0, 1, false), (1, 1, false), (2, 1, false), (3, 1, false)] [.val (.pointer none), .val (.pointer none), .val (.pointer none), .str []]
  | 190 => .st 4 [(0, 1, false), (1, 1, false), (2, 1, false), (3, 1, false)] [.val (.pointer none), .val (.pointer none), .val (.pointer none), .str []]
  | 195 => .one (.int .u8 0)
  | 196 => .one (.int .u8 0)
  | 198 => .one (.val (.pointer none))
  | 199 => .one (.int .i32 0)
  | 200 => .one (.int .i32 0)
  | 201 => .st 11 [(0, 1, false), (1, 1, false), (2, 1, false), (3, 1, false), (4, 1, false), (5, 1, false), (6, 1, false), (7, 1, false), (8, 1, false), (9, 1, false), (10, 1, false)] [.int .u64 0, .int .u64 0, .int .u32 0, .int .u8 0, .int .u8 0, .int .u8 0, .int .u8 0, .val .nilFunc, .val (.pointer none), .int .i32 0, .int .i32 0]
  | 202 => .st 11 [(0, 1, false), (1, 1, false), (2, 1, false), (3, 1, false), (4, 1, false), (5, 1, false), (6, 1, false), (7, 1, false), (8, 1, false), (9, 1, false), (10, 1, false)] [.int .u64 0, .int .u64 0, .int .u32 0, .int .u8 0, .int .u8 0, .int .u8 0, .int .u8 0, .val .nilFunc, .val (.pointer none), .int .i32 0, .int .i32 0]
  | _ => .unk
@[push_cast] theorem td_2 : td 2 = .one (.int .i64 0) := rfl
@[push_cast] theorem td_3 : td 3 = .one (.int .i64 0) := rfl
@[push_cast] theorem td_4 : td 4 = .one (.bool false) := rfl
@[push_cast] theorem td_5 : td 5 = .one (.int .u8 0) := rfl
@[push_cast] theorem td_6 : td 6 = .one (.int .u8 0) := rfl
@[push_cast] theorem td_7 : td 7 = .st 4 [(0, 1, false), (1, 1, false), (2, 1, false), (3, 1, false)] [.int .i64 0, .int .i64 0, .bool false, .int .u8 0] := rfl
@[push_cast] theorem td_8 : td 8 = .st 4 [(0, 1, false), (1, 1, false), (2, 1, false), (3, 1, false)] [.int .i64 0, .int .i64 0, .bool false, .int .u8 0] := rfl
@[push_cast] theorem td_9 : td 9 = .one (.str []) := rfl
@[push_cast] theorem td_10 : td 10 = .one (.str []) := rfl
@[push_cast] theorem td_11 : td 11 = .one (.str []) := rfl
@[push_cast] theorem td_12 : td 12 = .one (.int .u64 0) := rfl
@[push_cast] theorem td_13 : td 13 = .st 2 [(0, 1, false), (1, 1, false)] [.str [], .int .u64 0] := rfl
@[push_cast] theorem td_14 : td 14 = .st 2 [(0, 1, false), (1, 1, false)] [.str [], .int .u64 0] := rfl
@[push_cast] theorem td_15 : td 15 = .one (.val (.pointer none)) := rfl
@[push_cast] theorem td_16 : td 16 = .one (.val (.pointer none)) := rfl
@[push_cast] theorem td_17 : td 17 = .one (.val (.pointer none)) := rfl
@[push_cast] theorem td_18 : td 18 = .st 1 [(0, 1, false)] [.val (.pointer none)] := rfl
@[push_cast] theorem td_19 : td 19 = .st 1 [(0, 1, false)] [.val (.pointer none)] := rfl
@[push_cast] theorem td_21 : td 21 = .one (.int .i32 0) := rfl
@[push_cast] theorem td_22 : td 22 = .sl .node := rfl
@[push_cast] theorem td_23 : td 23 = .sl .rule := rfl
@[push_cast] theorem td_24 : td 24 = .sl .str := rfl
@[push_cast] theorem td_25 : td 25 = .st 9 [(0, 1, false), (1, 1, false), (2, 1, false), (3, 1, false), (4, 1, false), (5, 1, false), (6, 1, false), (7, 1, false), (8, 1, false)] [.bool false, .bool false, .nilS, .nilS, .nilS, .nilS, .nilS, .bool false, .bool false] := rfl
@[push_cast] theorem td_26 : td 26 = .st 9 [(0, 1, false), (1, 1, false), (2, 1, false), (3, 1, false), (4, 1, false), (5, 1, false), (6, 1, false), (7, 1, false), (8, 1, false)] [.bool false, .bool false, .nilS, .nilS, .nilS, .nilS, .nilS, .bool false, .bool false] := rfl
@[push_cast] theorem td_31 : td 31 = .sl .node := rfl
@[push_cast] theorem td_33 : td 33 = .sl .rule := rfl
@[push_cast] theorem td_34 : td 34 = .st 9 [(0, 1, false), (1, 1, false), (2, 1, false), (3, 1, false), (4, 1, false), (5, 1, false), (6, 1, false), (7, 1, false), (8, 1, false)] [.bool false, .bool false, .nilS, .nilS, .nilS, .nilS, .nilS, .bool false, .bool false] := rfl
@[push_cast] theorem td_35 : td 35 = .st 9 [(0, 1, false), (1, 1, false), (2, 1, false), (3, 1, false), (4, 1, false), (5, 1, false), (6, 1, false), (7, 1, false), (8, 1, false)] [.bool false, .bool false, .nilS, .nilS, .nilS, .nilS, .nilS, .bool false, .bool false] := rfl
@[push_cast] theorem td_50 : td 50 = .sl .attr := rfl
@[push_cast] theorem td_51 : td 51 = .st 6 [(0, 1, false), (1, 1, false), (2, 1, false), (3, 1, false), (4, 1, false), (5, 1, false)] [.int .i64 0, .int .i64 0, .str [], .str [], .nilS, .nilS] := rfl
@[push_cast] theorem td_52 : td 52 = .st 6 [(0, 1, false), (1, 1, false), (2, 1, false), (3, 1, false), (4, 1, false), (5, 1, false)] [.int .i64 0, .int .i64 0, .str [], .str [], .nilS, .nilS] := rfl
@[push_cast] theorem td_57 : td 57 = .sl .attr := rfl
@[push_cast] theorem td_58 : td 58 = .st 6 [(0, 1, false), (1, 1, false), (2, 1, false), (3, 1, false), (4, 1, false), (5, 1, false)] [.int .i64 0, .int .i64 0, .str [], .str [], .nilS, .nilS] := rfl
@[push_cast] theorem td_59 : td 59 = .st 6 [(0, 1, false), (1, 1, false), (2, 1, false), (3, 1, false), (4, 1, false), (5, 1, false)] [.int .i64 0, .int .i64 0, .str [], .str [], .nilS, .nilS] := rfl
@[push_cast] theorem td_73 : td 73 = .st 3 [(0, 1, false), (1, 1, false), (2, 1, false)] [.int .i64 0, .str [], .nilS] := rfl
@[push_cast] theorem td_74 : td 74 = .st 3 [(0, 1, false), (1, 1, false), (2, 1, false)] [.int .i64 0, .str [], .nilS] := rfl
@[push_cast] theorem td_82 : td 82 = .st 3 [(0, 1, false), (1, 1, false), (2, 1, false)] [.int .i64 0, .str [], .nilS] := rfl
@[push_cast] theorem td_89 : td 89 = .sl .int := rfl
@[push_cast] theorem td_96 : td 96 = .st 2 [(0, 1, false), (1, 1, false)] [.str [], .str []] := rfl
@[push_cast] theorem td_97 : td 97 = .st 2 [(0, 1, false), (1, 1, false)] [.str [], .str []] := rfl
@[push_cast] theorem td_102 : td 102 = .sl .u8 := rfl
@[push_cast] theorem td_112 : td 112 = .one (.int .u64 0) := rfl
@[push_cast] theorem td_119 : td 119 = .st 2 [(0, 1, false), (1, 1, false)] [.str [], .str []] := rfl
@[push_cast] theorem td_136 : td 136 = .one (.int .i64 0) := rfl
@[push_cast] theorem td_144 : td 144 = .one (.int .u32 0) := rfl
@[push_cast] theorem td_146 : td 146 = .one (.int .u64 0) := rfl
@[push_cast] theorem td_154 : td 154 = .one (.val (.pointer none)) := rfl
@[push_cast] theorem td_158 : td 158 = .one (.int .u64 0) := rfl
@[push_cast] theorem td_174 : td 174 = .one (.val (.pointer none)) := rfl
@[push_cast] theorem td_183 : td 183 = .one (.val (.pointer none)) := rfl
@[push_cast] theorem td_189 : td 189 = .st 4 [(0, 1, false), (1, 1, false), (2, 1, false), (3, 1, false)] [.val (.pointer none), .val (.pointer none), .val (.pointer none), .str []] := rfl
@[push_cast] theorem td_190 : td 190 = .st 4 [(0, 1, false), (1, 1, false), (2, 1, false), (3, 1, false)] [.val (.pointer none), .val (.pointer none), .val (.pointer none), .str []] := rfl
@[push_cast] theorem td_195 : td 195 = .one (.int .u8 0) := rfl
@[push_cast] theorem td_196 : td 196 = .one (.int .u8 0) := rfl
@[push_cast] theorem td_198 : td 198 = .one (.val (.pointer none)) := rfl
@[push_cast] theorem td_199 : td 199 = .one (.int .i32 0) := rfl
@[push_cast] theorem td_200 : td 200 = .one (.int .i32 0) := rfl
@[push_cast] theorem td_201 : td 201 = .st 11 [(0, 1, false), (1, 1, false), (2, 1, false), (3, 1, false), (4, 1, false), (5, 1, false), (6, 1, false), (7, 1, false), (8, 1, false), (9, 1, false), (10, 1, false)] [.int .u64 0, .int .u64 0, .int .u32 0, .int .u8 0, .int .u8 0, .int .u8 0, .int .u8 0, .val .nilFunc, .val (.pointer none), .int .i32 0, .int .i32 0] := rfl
@[push_cast] theorem td_202 : td 202 = .st 11 [(0, 1, false), (1, 1, false), (2, 1, false), (3, 1, false), (4, 1, false), (5, 1, false), (6, 1, false), (7, 1, false), (8, 1, false), (9, 1, false), (10, 1, false)] [.int .u64 0, .int .u64 0, .int .u32 0, .int .u8 0, .int .u8 0, .int .u8 0, .int .u8 0, .val .nilFunc, .val (.pointer none), .int .i32 0, .int .i32 0] := rfl
theorem tdok_2 (E : Env) : TDok P0 E 2 (.one (.int .i64 0)) := ⟨.int .i64, .int .i64 0, by kernel_rfl, by kernel_rfl, rfl, rfl, rfl⟩
theorem tdok_3 (E : Env) : TDok P0 E 3 (.one (.int .i64 0)) := ⟨.int .i64, .int .i64 0, by kernel_rfl, by kernel_rfl, rfl, rfl, rfl⟩
theorem tdok_4 (E : Env) : TDok P0 E 4 (.one (.bool false)) := ⟨.bool, .bool false, by kernel_rfl, by kernel_rfl, rfl, rfl, rfl⟩
theorem tdok_5 (E : Env) : TDok P0 E 5 (.one (.int .u8 0)) := ⟨.int .u8, .int .u8 0, by kernel_rfl, by kernel_rfl, rfl, rfl, rfl⟩
theorem tdok_6 (E : Env) : TDok P0 E 6 (.one (.int .u8 0)) := ⟨.int .u8, .int .u8 0, by kernel_rfl, by kernel_rfl, rfl, rfl, rfl⟩
theorem tdok_7 (E : Env) : TDok P0 E 7 (.st 4 [(0, 1, false), (1, 1, false), (2, 1, false), (3, 1, false)] [.int .i64 0, .int .i64 0, .bool false, .int .u8 0]) := ⟨#[.int .i64 0, .int .i64 0, .bool false, .int .u8 0], by kernel_rfl, by kernel_rfl, rfl, rfl⟩
theorem tdok_8 (E : Env) : TDok P0 E 8 (.st 4 [(0, 1, false), (1, 1, false), (2, 1, false), (3, 1, false)] [.int .i64 0, .int .i64 0, .bool false, .int .u8 0]) := ⟨#[.int .i64 0, .int .i64 0, .bool false, .int .u8 0], by kernel_rfl, by kernel_rfl, rfl, rfl⟩
theorem tdok_9 (E : Env) : TDok P0 E 9 (.one (.str [])) := ⟨.string, .string ⟨#[]⟩, by kernel_rfl, by kernel_rfl, rfl, rfl, rfl⟩
theorem tdok_10 (E : Env) : TDok P0 E 10 (.one (.str [])) := ⟨.string, .string ⟨#[]⟩, by kernel_rfl, by kernel_rfl, rfl, rfl, rfl⟩
theorem tdok_11 (E : Env) : TDok P0 E 11 (.one (.str [])) := ⟨.string, .string ⟨#[]⟩, by kernel_rfl, by kernel_rfl, rfl, rfl, rfl⟩
theorem tdok_12 (E : Env) : TDok P0 E 12 (.one (.int .u64 0)) := ⟨.int .u64, .int .u64 0, by kernel_rfl, by kernel_rfl, rfl, rfl, rfl⟩
theorem tdok_13 (E : Env) : TDok P0 E 13 (.st 2 [(0, 1, false), (1, 1, false)] [.str [], .int .u64 0]) := ⟨#[.string ⟨#[]⟩, .int .u64 0], by kernel_rfl, by kernel_rfl, rfl, rfl⟩
theorem tdok_14 (E : Env) : TDok P0 E 14 (.st 2 [(0, 1, false), (1, 1, false)] [.str [], .int .u64 0]) := ⟨#[.string ⟨#[]⟩, .int .u64 0], by kernel_rfl, by kernel_rfl, rfl, rfl⟩
theorem tdok_15 (E : Env) : TDok P0 E 15 (.one (.val (.pointer none))) := ⟨.pointer 190, .pointer none, by kernel_rfl, by kernel_rfl, rfl, rfl, trivial⟩
theorem tdok_16 (E : Env) : TDok P0 E 16 (.one (.val (.pointer none))) := ⟨.pointer 193, .pointer none, by kernel_rfl, by kernel_rfl, rfl, rfl, trivial⟩
theorem tdok_17 (E : Env) : TDok P0 E 17 (.one (.val (.pointer none))) := ⟨.pointer 202, .pointer none, by kernel_rfl, by kernel_rfl, rfl, rfl, trivial⟩
theorem tdok_18 (E : Env) : TDok P0 E 18 (.st 1 [(0, 1, false)] [.val (.pointer none)]) := ⟨#[.pointer none], by kernel_rfl, by kernel_rfl, rfl, rfl⟩
theorem tdok_19 (E : Env) : TDok P0 E 19 (.st 1 [(0, 1, false)] [.val (.pointer none)]) := ⟨#[.pointer none], by kernel_rfl, by kernel_rfl, rfl, rfl⟩
theorem tdok_21 (E : Env) : TDok P0 E 21 (.one (.int .i32 0)) := ⟨.int .i32, .int .i32 0, by kernel_rfl, by kernel_rfl, rfl, rfl, rfl⟩
theorem tdok_22 (E : Env) : TDok P0 E 22 (.sl .node) := ⟨52, by kernel_rfl, by kernel_rfl, by kernel_rfl, (fun h => by cases h), .agg #[.int .i64 0, .int .i64 0, .string ⟨#[]⟩, .string ⟨#[]⟩, .slice none 0 0, .slice none 0 0], 96, by kernel_rfl, by decide, by decide, rfl⟩
theorem tdok_23 (E : Env) : TDok P0 E 23 (.sl .rule) := ⟨82, by kernel_rfl, by kernel_rfl, by kernel_rfl, (fun h => by cases h), .agg #[.int .i64 0, .string ⟨#[]⟩, .slice none 0 0], 48, by kernel_rfl, by decide, by decide, rfl⟩
theorem tdok_24 (E : Env) : TDok P0 E 24 (.sl .str) := ⟨9, by kernel_rfl, by kernel_rfl, by kernel_rfl, (fun h => by cases h), .string ⟨#[]⟩, 16, by kernel_rfl, by decide, by decide, rfl⟩
theorem tdok_25 (E : Env) : TDok P0 E 25 (.st 9 [(0, 1, false), (1, 1, false), (2, 1, false), (3, 1, false), (4, 1, false), (5, 1, false), (6, 1, false), (7, 1, false), (8, 1, false)] [.bool false, .bool false, .nilS, .nilS, .nilS, .nilS, .nilS, .bool false, .bool false]) := ⟨#[.bool false, .bool false, .slice none 0 0, .slice none 0 0, .slice none 0 0, .slice none 0 0, .slice none 0 0, .bool false, .bool false], by kernel_rfl, by kernel_rfl, rfl, rfl⟩
theorem tdok_26 (E : Env) : TDok P0 E 26 (.st 9 [(0, 1, false), (1, 1, false), (2, 1, false), (3, 1, false), (4, 1, false), (5, 1, false), (6, 1, false), (7, 1, false), (8, 1, false)] [.bool false, .bool false, .nilS, .nilS, .nilS, .nilS, .nilS, .bool false, .bool false]) := ⟨#[.bool false, .bool false, .slice none 0 0, .slice none 0 0, .slice none 0 0, .slice none 0 0, .slice none 0 0, .bool false, .bool false], by kernel_rfl, by kernel_rfl, rfl, rfl⟩
theorem tdok_31 (E : Env) : TDok P0 E 31 (.sl .node) := ⟨59, by kernel_rfl, by kernel_rfl, by kernel_rfl, (fun h => by cases h), .agg #[.int .i64 0, .int .i64 0, .string ⟨#[]⟩, .string ⟨#[]⟩, .slice none 0 0, .slice none 0 0], 96, by kernel_rfl, by decide, by decide, rfl⟩
theorem tdok_33 (E : Env) : TDok P0 E 33 (.sl .rule) := ⟨74, by kernel_rfl, by kernel_rfl, by kernel_rfl, (fun h => by cases h), .agg #[.int .i64 0, .string ⟨#[]⟩, .slice none 0 0], 48, by kernel_rfl, by decide, by decide, rfl⟩
theorem tdok_34 (E : Env) : TDok P0 E 34 (.st 9 [(0, 1, false), (1, 1, false), (2, 1, false), (3, 1, false), (4, 1, false), (5, 1, false), (6, 1, false), (7, 1, false), (8, 1, false)] [.bool false, .bool false, .nilS, .nilS, .nilS, .nilS, .nilS, .bool false, .bool false]) := ⟨#[.bool false, .bool false, .slice none 0 0, .slice none 0 0, .slice none 0 0, .slice none 0 0, .slice none 0 0, .bool false, .bool false], by kernel_rfl, by kernel_rfl, rfl, rfl⟩
theorem tdok_35 (E : Env) : TDok P0 E 35 (.st 9 [(0, 1, false), (1, 1, false), (2, 1, false), (3, 1, false), (4, 1, false), (5, 1, false), (6, 1, false), (7, 1, false), (8, 1, false)] [.bool false, .bool false, .nilS, .nilS, .nilS, .nilS, .nilS, .bool false, .bool false]) := ⟨#[.bool false, .bool false, .slice none 0 0, .slice none 0 0, .slice none 0 0, .slice none 0 0, .slice none 0 0, .bool false, .bool false], by kernel_rfl, by kernel_rfl, rfl, rfl⟩
theorem tdok_50 (E : Env) : TDok P0 E 50 (.sl .attr) := ⟨119, by kernel_rfl, by kernel_rfl, by kernel_rfl, (fun h => by cases h), .agg #[.string ⟨#[]⟩, .string ⟨#[]⟩], 32, by kernel_rfl, by decide, by decide, rfl⟩
theorem tdok_51 (E : Env) : TDok P0 E 51 (.st 6 [(0, 1, false), (1, 1, false), (2, 1, false), (3, 1, false), (4, 1, false), (5, 1, false)] [.int .i64 0, .int .i64 0, .str [], .str [], .nilS, .nilS]) := ⟨#[.int .i64 0, .int .i64 0, .string ⟨#[]⟩, .string ⟨#[]⟩, .slice none 0 0, .slice none 0 0], by kernel_rfl, by kernel_rfl, rfl, rfl⟩
theorem tdok_52 (E : Env) : TDok P0 E 52 (.st 6 [(0, 1, false), (1, 1, false), (2, 1, false), (3, 1, false), (4, 1, false), (5, 1, false)] [.int .i64 0, .int .i64 0, .str [], .str [], .nilS, .nilS]) := ⟨#[.int .i64 0, .int .i64 0, .string ⟨#[]⟩, .string ⟨#[]⟩, .slice none 0 0, .slice none 0 0], by kernel_rfl, by kernel_rfl, rfl, rfl⟩
theorem tdok_57 (E : Env) : TDok P0 E 57 (.sl .attr) := ⟨97, by kernel_rfl, by kernel_rfl, by kernel_rfl, (fun h => by cases h), .agg #[.string ⟨#[]⟩, .string ⟨#[]⟩], 32, by kernel_rfl, by decide, by decide, rfl⟩
theorem tdok_58 (E : Env) : TDok P0 E 58 (.st 6 [(0, 1, false), (1, 1, false), (2, 1, false), (3, 1, false), (4, 1, false), (5, 1, false)] [.int .i64 0, .int .i64 0, .str [], .str [], .nilS, .nilS]) := ⟨#[.int .i64 0, .int .i64 0, .string ⟨#[]⟩, .string ⟨#[]⟩, .slice none 0 0, .slice none 0 0], by kernel_rfl, by kernel_rfl, rfl, rfl⟩
theorem tdok_59 (E : Env) : TDok P0 E 59 (.st 6 [(0, 1, false), (1, 1, false), (2, 1, false), (3, 1, false), (4, 1, false), (5, 1, false)] [.int .i64 0, .int .i64 0, .str [], .str [], .nilS, .nilS]) := ⟨#[.int .i64 0, .int .i64 0, .string ⟨#[]⟩, .string ⟨#[]⟩, .slice none 0 0, .slice none 0 0], by kernel_rfl, by kernel_rfl, rfl, rfl⟩
theorem tdok_73 (E : Env) : TDok P0 E 73 (.st 3 [(0, 1, false), (1, 1, false), (2, 1, false)] [.int .i64 0, .str [], .nilS]) := ⟨#[.int .i64 0, .string ⟨#[]⟩, .slice none 0 0], by kernel_rfl, by kernel_rfl, rfl, rfl⟩
theorem tdok_74 (E : Env) : TDok P0 E 74 (.st 3 [(0, 1, false), (1, 1, false), (2, 1, false)] [.int .i64 0, .str [], .nilS]) := ⟨#[.int .i64 0, .string ⟨#[]⟩, .slice none 0 0], by kernel_rfl, by kernel_rfl, rfl, rfl⟩
theorem tdok_82 (E : Env) : TDok P0 E 82 (.st 3 [(0, 1, false), (1, 1, false), (2, 1, false)] [.int .i64 0, .str [], .nilS]) := ⟨#[.int .i64 0, .string ⟨#[]⟩, .slice none 0 0], by kernel_rfl, by kernel_rfl, rfl, rfl⟩
theorem tdok_89 (E : Env) : TDok P0 E 89 (.sl .int) := ⟨3, by kernel_rfl, by kernel_rfl, by kernel_rfl, (fun h => by cases h), .int .i64 0, 8, by kernel_rfl, by decide, by decide, rfl⟩
theorem tdok_96 (E : Env) : TDok P0 E 96 (.st 2 [(0, 1, false), (1, 1, false)] [.str [], .str []]) := ⟨#[.string ⟨#[]⟩, .string ⟨#[]⟩], by kernel_rfl, by kernel_rfl, rfl, rfl⟩
theorem tdok_97 (E : Env) : TDok P0 E 97 (.st 2 [(0, 1, false), (1, 1, false)] [.str [], .str []]) := ⟨#[.string ⟨#[]⟩, .string ⟨#[]⟩], by kernel_rfl, by kernel_rfl, rfl, rfl⟩
theorem tdok_102 (E : Env) : TDok P0 E 102 (.sl .u8) := ⟨5, by kernel_rfl, by kernel_rfl, by kernel_rfl, (fun _ => by kernel_rfl), .int .u8 0, 1, by kernel_rfl, by decide, by decide, rfl⟩
theorem tdok_112 (E : Env) : TDok P0 E 112 (.one (.int .u64 0)) := ⟨.int .u64, .int .u64 0, by kernel_rfl, by kernel_rfl, rfl, rfl, rfl⟩
theorem tdok_119 (E : Env) : TDok P0 E 119 (.st 2 [(0, 1, false), (1, 1, false)] [.str [], .str []]) := ⟨#[.string ⟨#[]⟩, .string ⟨#[]⟩], by kernel_rfl, by kernel_rfl, rfl, rfl⟩
theorem tdok_136 (E : Env) : TDok P0 E 136 (.one (.int .i64 0)) := ⟨.int .i64, .int .i64 0, by kernel_rfl, by kernel_rfl, rfl, rfl, rfl⟩
theorem tdok_144 (E : Env) : TDok P0 E 144 (.one (.int .u32 0)) := ⟨.int .u32, .int .u32 0, by kernel_rfl, by kernel_rfl, rfl, rfl, rfl⟩
theorem tdok_146 (E : Env) : TDok P0 E 146 (.one (.int .u64 0)) := ⟨.int .u64, .int .u64 0, by kernel_rfl, by kernel_rfl, rfl, rfl, rfl⟩
theorem tdok_154 (E : Env) : TDok P0 E 154 (.one (.val (.pointer none))) := ⟨.pointer 3, .pointer none, by kernel_rfl, by kernel_rfl, rfl, rfl, trivial⟩
theorem tdok_158 (E : Env) : TDok P0 E 158 (.one (.int .u64 0)) := ⟨.int .u64, .int .u64 0, by kernel_rfl, by kernel_rfl, rfl, rfl, rfl⟩
theorem tdok_174 (E : Env) : TDok P0 E 174 (.one (.val (.pointer none))) := ⟨.pointer 158, .pointer none, by kernel_rfl, by kernel_rfl, rfl, rfl, trivial⟩
theorem tdok_183 (E : Env) : TDok P0 E 183 (.one (.val (.pointer none))) := ⟨.pointer 170, .pointer none, by kernel_rfl, by kernel_rfl, rfl, rfl, trivial⟩
theorem tdok_189 (E : Env) : TDok P0 E 189 (.st 4 [(0, 1, false), (1, 1, false), (2, 1, false), (3, 1, false)] [.val (.pointer none), .val (.pointer none), .val (.pointer none), .str []]) := ⟨#[.pointer none, .pointer none, .pointer none, .string ⟨#[]⟩], by kernel_rfl, by kernel_rfl, rfl, rfl⟩
theorem tdok_190 (E : Env) : TDok P0 E 190 (.st 4 [(0, 1, false), (1, 1, false), (2, 1, false), (3, 1, false)] [.val (.pointer none), .val (.pointer none), .val (.pointer none), .str []]) := ⟨#[.pointer none, .pointer none, .pointer none, .string ⟨#[]⟩], by kernel_rfl, by kernel_rfl, rfl, rfl⟩
theorem tdok_195 (E : Env) : TDok P0 E 195 (.one (.int .u8 0)) := ⟨.int .u8, .int .u8 0, by kernel_rfl, by kernel_rfl, rfl, rfl, rfl⟩
theorem tdok_196 (E : Env) : TDok P0 E 196 (.one (.int .u8 0)) := ⟨.int .u8, .int .u8 0, by kernel_rfl, by kernel_rfl, rfl, rfl, rfl⟩
theorem tdok_198 (E : Env) : TDok P0 E 198 (.one (.val (.pointer none))) := ⟨.pointer 5, .pointer none, by kernel_rfl, by kernel_rfl, rfl, rfl, trivial⟩
theorem tdok_199 (E : Env) : TDok P0 E 199 (.one (.int .i32 0)) := ⟨.int .i32, .int .i32 0, by kernel_rfl, by kernel_rfl, rfl, rfl, rfl⟩
theorem tdok_200 (E : Env) : TDok P0 E 200 (.one (.int .i32 0)) := ⟨.int .i32, .int .i32 0, by kernel_rfl, by kernel_rfl, rfl, rfl, rfl⟩
theorem tdok_201 (E : Env) : TDok P0 E 201 (.st 11 [(0, 1, false), (1, 1, false), (2, 1, false), (3, 1, false), (4, 1, false), (5, 1, false), (6, 1, false), (7, 1, false), (8, 1, false), (9, 1, false), (10, 1, false)] [.int .u64 0, .int .u64 0, .int .u32 0, .int .u8 0, .int .u8 0, .int .u8 0, .int .u8 0, .val .nilFunc, .val (.pointer none), .int .i32 0, .int .i32 0]) := ⟨#[.int .u64 0, .int .u64 0, .int .u32 0, .int .u8 0, .int .u8 0, .int .u8 0, .int .u8 0, .nilFunc, .pointer none, .int .i32 0, .int .i32 0], by kernel_rfl, by kernel_rfl, rfl, rfl⟩
theorem tdok_202 (E : Env) : TDok P0 E 202 (.st 11 [(0, 1, false), (1, 1, false), (2, 1, false), (3, 1, false), (4, 1, false), (5, 1, false), (6, 1, false), (7, 1, false), (8, 1, false), (9, 1, false), (10, 1, false)] [.int .u64 0, .int .u64 0, .int .u32 0, .int .u8 0, .int .u8 0, .int .u8 0, .int .u8 0, .val .nilFunc, .val (.pointer none), .int .i32 0, .int .i32 0]) := ⟨#[.int .u64 0, .int .u64 0, .int .u32 0, .int .u8 0, .int .u8 0, .int .u8 0, .int .u8 0, .nilFunc, .pointer none, .int .i32 0, .int .i32 0], by kernel_rfl, by kernel_rfl, rfl, rfl⟩
theorem tdok (E : Env) (t : TypeId) : TDok P0 E t (td t) := by
  unfold td
  split
  · exact tdok_2 E
  · exact tdok_3 E
  · exact tdok_4 E
  · exact tdok_5 E
  · exact tdok_6 E
  · exact tdok_7 E
  · exact tdok_8 E
  · exact tdok_9 E
  · exact tdok_10 E
  · exact tdok_11 E
  · exact tdok_12 E
  · exact tdok_13 E
  · exact tdok_14 E
  · exact tdok_15 E
  · exact tdok_16 E
  · exact tdok_17 E
  · exact tdok_18 E
  · exact tdok_19 E
  · exact tdok_21 E
  · exact tdok_22 E
  · exact tdok_23 E
  · exact tdok_24 E
  · exact tdok_25 E
  · exact tdok_26 E
  · exact tdok_31 E
  · exact tdok_33 E
  · exact tdok_34 E
  · exact tdok_35 E
  · exact tdok_50 E
  · exact tdok_51 E
  · exact tdok_52 E
  · exact tdok_57 E
  · exact tdok_58 E
  · exact tdok_59 E
  · exact tdok_73 E
  · exact tdok_74 E
  · exact tdok_82 E
  · exact tdok_89 E
  · exact tdok_96 E
  · exact tdok_97 E
  · exact tdok_102 E
  · exact tdok_112 E
  · exact tdok_119 E
  · exact tdok_136 E
  · exact tdok_144 E
  · exact tdok_146 E
  · exact tdok_154 E
  · exact tdok_158 E
  · exact tdok_174 E
  · exact tdok_183 E
  · exact tdok_189 E
  · exact tdok_190 E
  · exact tdok_195 E
  · exact tdok_196 E
  · exact tdok_198 E
  · exact tdok_199 E
  · exact tdok_200 E
  · exact tdok_201 E
  · exact tdok_202 E
  · trivial
def eqt : TypeId → Bool
  | 96 => true
  | 97 => true
  | 119 => true
  | _ => false
@[push_cast] theorem eqt_96 : eqt 96 = true := rfl
@[push_cast] theorem eqt_97 : eqt 97 = true := rfl
@[push_cast] theorem eqt_119 : eqt 119 = true := rfl
theorem eqt_ok (t : TypeId) (h : eqt t = true) : EqS P0 t := by
  unfold eqt at h
  split at h
  · exact eqS_ofB (by kernel_rfl)
  · exact eqS_ofB (by kernel_rfl)
  · exact eqS_ofB (by kernel_rfl)
  · cases h
def ety0 : K → TypeId := fun _ => 0
def mk (l : List (FuncId × Spec)) (d : List (Nat × List Nat × List (List Nat))) (g : List (Nat × List Gho) := []) : Env := ⟨td, ety0, calOf l, drOf d, eqt, ghOf g⟩
theorem mixed : P0.follows .mixedOrders = true := by kernel_rfl
theorem mkOk {l : List (FuncId × Spec)} {d : List (Nat × List Nat × List (List Nat))} {g : List (Nat × List Gho)} (h : Rows P0 ety0 l) : EnvOk P0 (mk l d g) := EnvOk.of mixed tdok h _ _ eqt_ok _
end Go.Ab
