/- The table of types. -/
import Derived.Test.YtondigjbmieekaaEng4
import Derived.Test.YtondigjbmieekaaProg
namespace Go.Ab
open Go
noncomputable abbrev P0 : Program := Go.Proofs.Try.prog
noncomputable instance gi0 : GI := ⟨fun w R => ∃ w0 : World, w0.ShapedOpen P0 ∧ ∀ b, b < w0.heap.size → R b ∧ w.heap[b]? = w0.heap[b]?, fun {w w' R R'} h hR hm => by
  obtain ⟨w0, h1, h2⟩ := h
  refine ⟨w0, h1, fun b hb => ⟨hR b (h2 b hb).1, ?_⟩⟩
  have e := (h2 b hb).2
  have hlt : b < w.heap.size := by
    rw [Array.getElem?_eq_getElem hb] at e
    exact (Array.getElem?_eq_some_iff.1 e).1
  rw [hm b (h2 b hb).1 hlt, e]⟩
def td : TypeId → TD
  | 2 => .one (.int .i64 0)
  | 3 => .one (.int .i64 0)
  | 4 => .one (.bool false)
  | 5 => .one (.int .u8 0)
  | 6 => .one (.int .u8 0)
  | 7 => .st 4 [(0, 1, false), (1, 1, false), (2, 1, false), (3, 1, false)] [.int .i64 0, .int .i64 0, .bool false, .int .u8 0]
  | 8 => .st 4 [(0, 1, false), (1, 1, false), (2, 1, false), (3, 1, false)] [.int .i64 0, .int .i64 0, .bool false, .int .u8 0]
  | 9 => .one (.str [])
  | 10 => .one (.str [])
  | 11 => .one (.str [])
  | 12 => .one (.int .u64 0)
  | 13 => .st 2 [(0, 1, false), (1, 1, false)] [.str [], .int .u64 0]
  | 14 => .st 2 [(0, 1, false), (1, 1, false)] [.str [], .int .u64 0]
  | 15 => .one (.val (.pointer none))
  | 16 => .one (.val (.pointer none))
  | 17 => .one (.val (.pointer none))
  | 18 => .st 1 [(0, 1, false)] [.val (.pointer none)]
  | 19 => .st 1 [(0, 1, false)] [.val (.pointer none)]
  | 21 => .one (.int .i32 0)
  | 22 => .sl .cfg
  | 24 => .sl .doc
  | 25 => .sl .cfg
  | 26 => .st 2 [(0, 1, false), (1, 1, false)] [.nilS, .nilS]
  | 27 => .st 2 [(0, 1, false), (1, 1, false)] [.nilS, .nilS]
  | 36 => .sl .node
  | 38 => .sl .str
  | 41 => .sl .node
  | 48 => .sl .int
  | 49 => .st 2 [(0, 1, false), (1, 1, false)] [.str [], .str []]
  | 50 => .st 2 [(0, 1, false), (1, 1, false)] [.str [], .str []]
  | 55 => .st 2 [(0, 1, false), (1, 1, false)] [.str [], .str []]
  | 62 => .sl .attr
  | 63 => .st 6 [(0, 1, false), (1, 1, false), (2, 1, false), (3, 1, false), (4, 1, false), (5, 1, false)] [.int .i64 0, .int .i64 0, .str [], .str [], .nilS, .nilS]
  | 64 => .st 6 [(0, 1, false), (1, 1, false), (2, 1, false), (3, 1, false), (4, 1, false), (5, 1, false)] [.int .i64 0, .int .i64 0, .str [], .str [], .nilS, .nilS]
  | 67 => .sl .attr
  | 68 => .st 6 [(0, 1, false), (1, 1, false), (2, 1, false), (3, 1, false), (4, 1, false), (5, 1, false)] [.int .i64 0, .int .i64 0, .str [], .str [], .nilS, .nilS]
  | 69 => .st 6 [(0, 1, false), (1, 1, false), (2, 1, false), (3, 1, false), (4, 1, false), (5, 1, false)] [.int .i64 0, .int .i64 0, .str [], .str [], .nilS, .nilS]
  | 75 => .sl .rule
  | 76 => .st 9 [(0, 1, false), (1, 1, false), (2, 1, false), (3, 1, false), (4, 1, false), (5, 1, false), (6, 1, false), (7, 1, false), (8, 1, false)] [.bool false, .bool false, .nilS, .nilS, .nilS, .nilS, .nilS, .bool false, .bool false]
  | 77 => .st 9 [(0, 1, false), (1, 1, false), (2, 1, false), (3, 1, false), (4, 1, false), (5, 1, false), (6, 1, false), (7, 1, false), (8, 1, false)] [.bool false, .bool false, .nilS, .nilS, .nilS, .nilS, .nilS, .bool false, .bool false]
  | 79 => .sl .rule
  | 80 => .st 9 [(0, 1, false), (1, 1, false), (2, 1, false), (3, 1, false), (4, 1, false), (5, 1, false), (6, 1, false), (7, 1, false), (8, 1, false)] [.bool false, .bool false, .nilS, .nilS, .nilS, .nilS, .nilS, .bool false, .bool false]
  | 81 => .st 9 [(0, 1, false), (1, 1, false), (2, 1, false), (3, 1, false), (4, 1, false), (5, 1, false), (6, 1, false), (7, 1, false), (8, 1, false)] [.bool false, .bool false, .nilS, .nilS, .nilS, .nilS, .nilS, .bool false, .bool false]
  | 102 => .one (.val (.pointer none))
  | 117 => .st 3 [(0, 1, false), (1, 1, false), (2, 1, false)] [.int .i64 0, .str [], .nilS]
  | 118 => .st 3 [(0, 1, false), (1, 1, false), (2, 1, false)] [.int .i64 0, .str [], .nilS]
  | 121 => .st 2 [(0, 1, false), (1, 1, false)] [.str [], .nilS]
  | 122 => .st 2 [(0, 1, false), (1, 1, false)] [.str [], .nilS]
  | 136 => .sl .u8
  | 145 => .one (.val (.pointer none))
  | 150 => .st 3 [(0, 1, false), (1, 1, false), (2, 1, false)] [.int .i64 0, .str [], .nilS]
  | 156 => .one (.val (.pointer none))
  | 157 => .one (.int .u64 0)
  | 161 => .one (.val (.pointer none))
  | 162 => .st 2 [(0, 1, false), (1, 1, false)] [.val (.pointer none), .nilS]
  | 163 => .st 2 [(0, 1, false), (1, 1, false)] [.val (.pointer none), .nilS]
  | 178 => .one (.int .u32 0)
  | 181 => .one (.int .u64 0)
  | 184 => .one (.val (.pointer none))
  | 192 => .st 4 [(0, 1, false), (1, 1, false), (2, 1, false), (3, 1, false)] [.val (.pointer none), .val (.pointer none), .val (.pointer none), .str []]
  | 193 => .st 4 [(0, 1, false), (1, 1, false), (2, 1, false), (3, 1, false)] [.val (.pointer none), .val (.pointer none), .val (.pointer none), .str []]
  | 197 => .one (.int .u8 0)
  | 198 => .one (.int .u8 0)
  | 200 => .one (.int .i32 0)
  | 201 => .one (.int .i32 0)
  | 202 => .st 11 [(0, 1, false), (1, 1, false), (2, 1, false), (3, 1, false), (4, 1, false), (5, 1, false), (6, 1, false), (7, 1, false), (8, 1, false), (9, 1, false), (10, 1, false)] [.int .u64 0, .int .u64 0, .int .u32 0, .int .u8 0, .int .u8 0, .int .u8 0, .int .u8 0, .val .nilFunc, .val (.pointer none), .int .i32 0, .int .i32 0]
  | 203 => .st 11 [(0, 1, false), (1, 1, false), (2, 1, false), (3, 1, false), (4, 1, false), (5, 1, false), (6, 1, false), (7, 1, false), (8, 1, false), (9, 1, false), (10, 1, false)] [.int .u64 0, .int .u64 0, .int .u32 0, .int .u8 0, .int .u8 0, .int .u8 0, .int .u8 0, .val .nilFunc, .val (.pointer none), .int .i32 0, .int .i32 0]
  | _ => .unk
@[push_cast] theorem td_2 : td 2 = .one (.int .i64 0) := rfl
@[push_cast] theorem td_3 : td 3 = .one (.int .i64 0) := rfl
@[push_cast] theorem td_4 : td 4 = .one (.bool false) := rfl
@[push_cast] theorem td_5 : td 5 = .one (.int .u8 0) := rfl
@[push_cast] theorem td_6 : td 6 = .one (.int .u8 0) := rfl
@[push_cast] theorem td_7 : td 7 = .st 4 [(0, 1, false), (1, 1, false), (2, 1, false), (3, 1, false)] [.int .i64 0, .int .i64 0, .bool false, .int .u8 0] := rfl
@[push_cast] theorem td_8 : td 8 = .st 4 [(0, 1, false), (1, 1, false), (2, 1, false), (3, 1, false)] [.int .i64 0, .int .i64 0, .bool false, .int .u8 0] := rfl
@[push_cast] theorem td_9 : td 9 = .one (.str []) := rfl
@[push_cast] theorem td_10 : td 10 = .one (.str []) := rfl
@[push_cast] theorem td_11 : td 11 = .one (.str []) := rfl
@[push_cast] theorem td_12 : td 12 = .one (.int .u64 0) := rfl
@[push_cast] theorem td_13 : td 13 = .st 2 [(0, 1, false), (1, 1, false)] [.str [], .int .u64 0] := rfl
@[push_cast] theorem td_14 : td 14 = .st 2 [(0, 1, false), (1, 1, false)] [.str [], .int .u64 0] := rfl
@[push_cast] theorem td_15 : td 15 = .one (.val (.pointer none)) := rfl
@[push_cast] theorem td_16 : td 16 = .one (.val (.pointer none)) := rfl
@[push_cast] theorem td_17 : td 17 = .one (.val (.pointer none)) := rfl
@[push_cast] theorem td_18 : td 18 = .st 1 [(0, 1, false)] [.val (.pointer none)] := rfl
@[push_cast] theorem td_19 : td 19 = .st 1 [(0, 1, false)] [.val (.pointer none)] := rfl
@[push_cast] theorem td_21 : td 21 = .one (.int .i32 0) := rfl
@[push_cast] theorem td_22 : td 22 = .sl .cfg := rfl
@[push_cast] theorem td_24 : td 24 = .sl .doc := rfl
@[push_cast] theorem td_25 : td 25 = .sl .cfg := rfl
@[push_cast] theorem td_26 : td 26 = .st 2 [(0, 1, false), (1, 1, false)] [.nilS, .nilS] := rfl
@[push_cast] theorem td_27 : td 27 = .st 2 [(0, 1, false), (1, 1, false)] [.nilS, .nilS] := rfl
@[push_cast] theorem td_36 : td 36 = .sl .node := rfl
@[push_cast] theorem td_38 : td 38 = .sl .str := rfl
@[push_cast] theorem td_41 : td 41 = .sl .node := rfl
@[push_cast] theorem td_48 : td 48 = .sl .int := rfl
@[push_cast] theorem td_49 : td 49 = .st 2 [(0, 1, false), (1, 1, false)] [.str [], .str []] := rfl
@[push_cast] theorem td_50 : td 50 = .st 2 [(0, 1, false), (1, 1, false)] [.str [], .str []] := rfl
@[push_cast] theorem td_55 : td 55 = .st 2 [(0, 1, false), (1, 1, false)] [.str [], .str []] := rfl
@[push_cast] theorem td_62 : td 62 = .sl .attr := rfl
@[push_cast] theorem td_63 : td 63 = .st 6 [(0, 1, false), (1, 1, false), (2, 1, false), (3, 1, false), (4, 1, false), (5, 1, false)] [.int .i64 0, .int .i64 0, .str [], .str [], .nilS, .nilS] := rfl
@[push_cast] theorem td_64 : td 64 = .st 6 [(0, 1, false), (1, 1, false), (2, 1, false), (3, 1, false), (4, 1, false), (5, 1, false)] [.int .i64 0, .int .i64 0, .str [], .str [], .nilS, .nilS] := rfl
@[push_cast] theorem td_67 : td 67 = .sl .attr := rfl
@[push_cast] theorem td_68 : td 68 = .st 6 [(0, 1, false), (1, 1, false), (2, 1, false), (3, 1, false), (4, 1, false), (5, 1, false)] [.int .i64 0, .int .i64 0, .str [], .str [], .nilS, .nilS] := rfl
@[push_cast] theorem td_69 : td 69 = .st 6 [(0, 1, false), (1, 1, false), (2, 1, false), (3, 1, false), (4, 1, false), (5, 1, false)] [.int .i64 0, .int .i64 0, .str [], .str [], .nilS, .nilS] := rfl
@[push_cast] theorem td_75 : td 75 = .sl .rule := rfl
@[push_cast] theorem td_76 : td 76 = .st 9 [(0, 1, false), (1, 1, false), (2, 1, false), (3, 1, false), (4, 1, false), (5, 1, false), (6, 1, false), (7, 1, false), (8, 1, false)] [.bool false, .bool false, .nilS, .nilS, .nilS, .nilS, .nilS, .bool false, .bool false] := rfl
@[push_cast] theorem td_77 : td 77 = .st 9 [(0, 1, false), (1, 1, false), (2, 1, false), (3, 1, false), (4, 1, false), (5, 1, false), (6, 1, false), (7, 1, false), (8, 1, false)] [.bool false, .bool false, .nilS, .nilS, .nilS, .nilS, .nilS, .bool false, .bool false] := rfl
@[push_cast] theorem td_79 : td 79 = .sl .rule := rfl
@[push_cast] theorem td_80 : td 80 = .st 9 [(0, 1, false), (1, 1, false), (2, 1, false), (3, 1, false), (4, 1, false), (5, 1, false), (6, 1, false), (7, 1, false), (8, 1, false)] [.bool false, .bool false, .nilS, .nilS, .nilS, .nilS, .nilS, .bool false, .bool false] := rfl
@[push_cast] theorem td_81 : td 81 = .st 9 [(0, 1, false), (1, 1, false), (2, 1, false), (3, 1, false), (4, 1, false), (5, 1, false), (6, 1, false), (7, 1, false), (8, 1, false)] [.bool false, .bool false, .nilS, .nilS, .nilS, .nilS, .nilS, .bool false, .bool false] := rfl
@[push_cast] theorem td_102 : td 102 = .one (.val (.pointer none)) := rfl
@[push_cast] theorem td_117 : td 117 = .st 3 [(0, 1, false), (1, 1, false), (2, 1, false)] [.int .i64 0, .str [], .nilS] := rfl
@[push_cast] theorem td_118 : td 118 = .st 3 [(0, 1, false), (1, 1, false), (2, 1, false)] [.int .i64 0, .str [], .nilS] := rfl
@[push_cast] theorem td_121 : td 121 = .st 2 [(0, 1, false), (1, 1, false)] [.str [], .nilS] := rfl
@[push_cast] theorem td_122 : td 122 = .st 2 [(0, 1, false), (1, 1, false)] [.str [], .nilS] := rfl
@[push_cast] theorem td_136 : td 136 = .sl .u8 := rfl
@[push_cast] theorem td_145 : td 145 = .one (.val (.pointer none)) := rfl
@[push_cast] theorem td_150 : td 150 = .st 3 [(0, 1, false), (1, 1, false), (2, 1, false)] [.int .i64 0, .str [], .nilS] := rfl
@[push_cast] theorem td_156 : td 156 = .one (.val (.pointer none)) := rfl
@[push_cast] theorem td_157 : td 157 = .one (.int .u64 0) := rfl
@[push_cast] theorem td_161 : td 161 = .one (.val (.pointer none)) := rfl
@[push_cast] theorem td_162 : td 162 = .st 2 [(0, 1, false), (1, 1, false)] [.val (.pointer none), .nilS] := rfl
@[push_cast] theorem td_163 : td 163 = .st 2 [(0, 1, false), (1, 1, false)] [.val (.pointer none), .nilS] := rfl
@[push_cast] theorem td_178 : td 178 = .one (.int .u32 0) := rfl
@[push_cast] theorem td_181 : td 181 = .one (.int .u64 0) := rfl
@[push_cast] theorem td_184 : td 184 = .one (.val (.pointer none)) := rfl
@[push_cast] theorem td_192 : td 192 = .st 4 [(0, 1, false), (1, 1, false), (2, 1, false), (3, 1, false)] [.val (.pointer none), .val (.pointer none), .val (.pointer none), .str []] := rfl
@[push_cast] theorem td_193 : td 193 = .st 4 [(0, 1, false), (1, 1, false), (2, 1, false), (3, 1, false)] [.val (.pointer none), .val (.pointer none), .val (.pointer none), .str []] := rfl
@[push_cast] theorem td_197 : td 197 = .one (.int .u8 0) := rfl
@[push_cast] theorem td_198 : td 198 = .one (.int .u8 0) := rfl
@[push_cast] theorem td_200 : td 200 = .one (.int .i32 0) := rfl
@[push_cast] theorem td_201 : td 201 = .one (.int .i32 0) := rfl
@[push_cast] theorem td_202 : td 202 = .st 11 [(0, 1, false), (1, 1, false), (2, 1, false), (3, 1, false), (4, 1, false), (5, 1, false), (6, 1, false), (7, 1, false), (8, 1, false), (9, 1, false), (10, 1, false)] [.int .u64 0, .int .u64 0, .int .u32 0, .int .u8 0, .int .u8 0, .int .u8 0, .int .u8 0, .val .nilFunc, .val (.pointer none), .int .i32 0, .int .i32 0] := rfl
@[push_cast] theorem td_203 : td 203 = .st 11 [(0, 1, false), (1, 1, false), (2, 1, false), (3, 1, false), (4, 1, false), (5, 1, false), (6, 1, false), (7, 1, false), (8, 1, false), (9, 1, false), (10, 1, false)] [.int .u64 0, .int .u64 0, .int .u32 0, .int .u8 0, .int .u8 0, .int .u8 0, .int .u8 0, .val .nilFunc, .val (.pointer none), .int .i32 0, .int .i32 0] := rfl
theorem tdok_2 (E : Env) : TDok P0 E 2 (.one (.int .i64 0)) := ⟨.int .i64, .int .i64 0, by kernel_rfl, by kernel_rfl, rfl, rfl, rfl⟩
theorem tdok_3 (E : Env) : TDok P0 E 3 (.one (.int .i64 0)) := ⟨.int .i64, .int .i64 0, by kernel_rfl, by kernel_rfl, rfl, rfl, rfl⟩
theorem tdok_4 (E : Env) : TDok P0 E 4 (.one (.bool false)) := ⟨.bool, .bool false, by kernel_rfl, by kernel_rfl, rfl, rfl, rfl⟩
theorem tdok_5 (E : Env) : TDok P0 E 5 (.one (.int .u8 0)) := ⟨.int .u8, .int .u8 0, by kernel_rfl, by kernel_rfl, rfl, rfl, rfl⟩
theorem tdok_6 (E : Env) : TDok P0 E 6 (.one (.int .u8 0)) := ⟨.int .u8, .int .u8 0, by kernel_rfl, by kernel_rfl, rfl, rfl, rfl⟩
theorem tdok_7 (E : Env) : TDok P0 E 7 (.st 4 [(0, 1, false), (1, 1, false), (2, 1, false), (3, 1, false)] [.int .i64 0, .int .i64 0, .bool false, .int .u8 0]) := ⟨#[.int .i64 0, .int .i64 0, .bool false, .int .u8 0], by kernel_rfl, by kernel_rfl, rfl, rfl⟩
theorem tdok_8 (E : Env) : TDok P0 E 8 (.st 4 [(0, 1, false), (1, 1, false), (2, 1, false), (3, 1, false)] [.int .i64 0, .int .i64 0, .bool false, .int .u8 0]) := ⟨#[.int .i64 0, .int .i64 0, .bool false, .int .u8 0], by kernel_rfl, by kernel_rfl, rfl, rfl⟩
theorem tdok_9 (E : Env) : TDok P0 E 9 (.one (.str [])) := ⟨.string, .string ⟨#[]⟩, by kernel_rfl, by kernel_rfl, rfl, rfl, rfl⟩
theorem tdok_10 (E : Env) : TDok P0 E 10 (.one (.str [])) := ⟨.string, .string ⟨#[]⟩, by kernel_rfl, by kernel_rfl, rfl, rfl, rfl⟩
theorem tdok_11 (E : Env) : TDok P0 E 11 (.one (.str [])) := ⟨.string, .string ⟨#[]⟩, by kernel_rfl, by kernel_rfl, rfl, rfl, rfl⟩
theorem tdok_12 (E : Env) : TDok P0 E 12 (.one (.int .u64 0)) := ⟨.int .u64, .int .u64 0, by kernel_rfl, by kernel_rfl, rfl, rfl, rfl⟩
theorem tdok_13 (E : Env) : TDok P0 E 13 (.st 2 [(0, 1, false), (1, 1, false)] [.str [], .int .u64 0]) := ⟨#[.string ⟨#[]⟩, .int .u64 0], by kernel_rfl, by kernel_rfl, rfl, rfl⟩
theorem tdok_14 (E : Env) : TDok P0 E 14 (.st 2 [(0, 1, false), (1, 1, false)] [.str [], .int .u64 0]) := ⟨#[.string ⟨#[]⟩, .int .u64 0], by kernel_rfl, by kernel_rfl, rfl, rfl⟩
theorem tdok_15 (E : Env) : TDok P0 E 15 (.one (.val (.pointer none))) := ⟨.pointer 193, .pointer none, by kernel_rfl, by kernel_rfl, rfl, rfl, ⟨_, rfl⟩⟩
theorem tdok_16 (E : Env) : TDok P0 E 16 (.one (.val (.pointer none))) := ⟨.pointer 196, .pointer none, by kernel_rfl, by kernel_rfl, rfl, rfl, ⟨_, rfl⟩⟩
theorem tdok_17 (E : Env) : TDok P0 E 17 (.one (.val (.pointer none))) := ⟨.pointer 203, .pointer none, by kernel_rfl, by kernel_rfl, rfl, rfl, ⟨_, rfl⟩⟩
theorem tdok_18 (E : Env) : TDok P0 E 18 (.st 1 [(0, 1, false)] [.val (.pointer none)]) := ⟨#[.pointer none], by kernel_rfl, by kernel_rfl, rfl, rfl⟩
theorem tdok_19 (E : Env) : TDok P0 E 19 (.st 1 [(0, 1, false)] [.val (.pointer none)]) := ⟨#[.pointer none], by kernel_rfl, by kernel_rfl, rfl, rfl⟩
theorem tdok_21 (E : Env) : TDok P0 E 21 (.one (.int .i32 0)) := ⟨.int .i32, .int .i32 0, by kernel_rfl, by kernel_rfl, rfl, rfl, rfl⟩
theorem tdok_22 (E : Env) : TDok P0 E 22 (.sl .cfg) := ⟨77, by kernel_rfl, by kernel_rfl, by kernel_rfl, (fun h => by cases h), .agg #[.bool false, .bool false, .slice none 0 0, .slice none 0 0, .slice none 0 0, .slice none 0 0, .slice none 0 0, .bool false, .bool false], 136, by kernel_rfl, by decide, by decide, rfl⟩
theorem tdok_24 (E : Env) : TDok P0 E 24 (.sl .doc) := ⟨122, by kernel_rfl, by kernel_rfl, by kernel_rfl, (fun h => by cases h), .agg #[.string ⟨#[]⟩, .slice none 0 0], 40, by kernel_rfl, by decide, by decide, rfl⟩
theorem tdok_25 (E : Env) : TDok P0 E 25 (.sl .cfg) := ⟨81, by kernel_rfl, by kernel_rfl, by kernel_rfl, (fun h => by cases h), .agg #[.bool false, .bool false, .slice none 0 0, .slice none 0 0, .slice none 0 0, .slice none 0 0, .slice none 0 0, .bool false, .bool false], 136, by kernel_rfl, by decide, by decide, rfl⟩
theorem tdok_26 (E : Env) : TDok P0 E 26 (.st 2 [(0, 1, false), (1, 1, false)] [.nilS, .nilS]) := ⟨#[.slice none 0 0, .slice none 0 0], by kernel_rfl, by kernel_rfl, rfl, rfl⟩
theorem tdok_27 (E : Env) : TDok P0 E 27 (.st 2 [(0, 1, false), (1, 1, false)] [.nilS, .nilS]) := ⟨#[.slice none 0 0, .slice none 0 0], by kernel_rfl, by kernel_rfl, rfl, rfl⟩
theorem tdok_36 (E : Env) : TDok P0 E 36 (.sl .node) := ⟨64, by kernel_rfl, by kernel_rfl, by kernel_rfl, (fun h => by cases h), .agg #[.int .i64 0, .int .i64 0, .string ⟨#[]⟩, .string ⟨#[]⟩, .slice none 0 0, .slice none 0 0], 96, by kernel_rfl, by decide, by decide, rfl⟩
theorem tdok_38 (E : Env) : TDok P0 E 38 (.sl .str) := ⟨9, by kernel_rfl, by kernel_rfl, by kernel_rfl, (fun h => by cases h), .string ⟨#[]⟩, 16, by kernel_rfl, by decide, by decide, rfl⟩
theorem tdok_41 (E : Env) : TDok P0 E 41 (.sl .node) := ⟨69, by kernel_rfl, by kernel_rfl, by kernel_rfl, (fun h => by cases h), .agg #[.int .i64 0, .int .i64 0, .string ⟨#[]⟩, .string ⟨#[]⟩, .slice none 0 0, .slice none 0 0], 96, by kernel_rfl, by decide, by decide, rfl⟩
theorem tdok_48 (E : Env) : TDok P0 E 48 (.sl .int) := ⟨3, by kernel_rfl, by kernel_rfl, by kernel_rfl, (fun h => by cases h), .int .i64 0, 8, by kernel_rfl, by decide, by decide, rfl⟩
theorem tdok_49 (E : Env) : TDok P0 E 49 (.st 2 [(0, 1, false), (1, 1, false)] [.str [], .str []]) := ⟨#[.string ⟨#[]⟩, .string ⟨#[]⟩], by kernel_rfl, by kernel_rfl, rfl, rfl⟩
theorem tdok_50 (E : Env) : TDok P0 E 50 (.st 2 [(0, 1, false), (1, 1, false)] [.str [], .str []]) := ⟨#[.string ⟨#[]⟩, .string ⟨#[]⟩], by kernel_rfl, by kernel_rfl, rfl, rfl⟩
theorem tdok_55 (E : Env) : TDok P0 E 55 (.st 2 [(0, 1, false), (1, 1, false)] [.str [], .str []]) := ⟨#[.string ⟨#[]⟩, .string ⟨#[]⟩], by kernel_rfl, by kernel_rfl, rfl, rfl⟩
theorem tdok_62 (E : Env) : TDok P0 E 62 (.sl .attr) := ⟨50, by kernel_rfl, by kernel_rfl, by kernel_rfl, (fun h => by cases h), .agg #[.string ⟨#[]⟩, .string ⟨#[]⟩], 32, by kernel_rfl, by decide, by decide, rfl⟩
theorem tdok_63 (E : Env) : TDok P0 E 63 (.st 6 [(0, 1, false), (1, 1, false), (2, 1, false), (3, 1, false), (4, 1, false), (5, 1, false)] [.int .i64 0, .int .i64 0, .str [], .str [], .nilS, .nilS]) := ⟨#[.int .i64 0, .int .i64 0, .string ⟨#[]⟩, .string ⟨#[]⟩, .slice none 0 0, .slice none 0 0], by kernel_rfl, by kernel_rfl, rfl, rfl⟩
theorem tdok_64 (E : Env) : TDok P0 E 64 (.st 6 [(0, 1, false), (1, 1, false), (2, 1, false), (3, 1, false), (4, 1, false), (5, 1, false)] [.int .i64 0, .int .i64 0, .str [], .str [], .nilS, .nilS]) := ⟨#[.int .i64 0, .int .i64 0, .string ⟨#[]⟩, .string ⟨#[]⟩, .slice none 0 0, .slice none 0 0], by kernel_rfl, by kernel_rfl, rfl, rfl⟩
theorem tdok_67 (E : Env) : TDok P0 E 67 (.sl .attr) := ⟨55, by kernel_rfl, by kernel_rfl, by kernel_rfl, (fun h => by cases h), .agg #[.string ⟨#[]⟩, .string ⟨#[]⟩], 32, by kernel_rfl, by decide, by decide, rfl⟩
theorem tdok_68 (E : Env) : TDok P0 E 68 (.st 6 [(0, 1, false), (1, 1, false), (2, 1, false), (3, 1, false), (4, 1, false), (5, 1, false)] [.int .i64 0, .int .i64 0, .str [], .str [], .nilS, .nilS]) := ⟨#[.int .i64 0, .int .i64 0, .string ⟨#[]⟩, .string ⟨#[]⟩, .slice none 0 0, .slice none 0 0], by kernel_rfl, by kernel_rfl, rfl, rfl⟩
theorem tdok_69 (E : Env) : TDok P0 E 69 (.st 6 [(0, 1, false), (1, 1, false), (2, 1, false), (3, 1, false), (4, 1, false), (5, 1, false)] [.int .i64 0, .int .i64 0, .str [], .str [], .nilS, .nilS]) := ⟨#[.int .i64 0, .int .i64 0, .string ⟨#[]⟩, .string ⟨#[]⟩, .slice none 0 0, .slice none 0 0], by kernel_rfl, by kernel_rfl, rfl, rfl⟩
theorem tdok_75 (E : Env) : TDok P0 E 75 (.sl .rule) := ⟨150, by kernel_rfl, by kernel_rfl, by kernel_rfl, (fun h => by cases h), .agg #[.int .i64 0, .string ⟨#[]⟩, .slice none 0 0], 48, by kernel_rfl, by decide, by decide, rfl⟩
theorem tdok_76 (E : Env) : TDok P0 E 76 (.st 9 [(0, 1, false), (1, 1, false), (2, 1, false), (3, 1, false), (4, 1, false), (5, 1, false), (6, 1, false), (7, 1, false), (8, 1, false)] [.bool false, .bool false, .nilS, .nilS, .nilS, .nilS, .nilS, .bool false, .bool false]) := ⟨#[.bool false, .bool false, .slice none 0 0, .slice none 0 0, .slice none 0 0, .slice none 0 0, .slice none 0 0, .bool false, .bool false], by kernel_rfl, by kernel_rfl, rfl, rfl⟩
theorem tdok_77 (E : Env) : TDok P0 E 77 (.st 9 [(0, 1, false), (1, 1, false), (2, 1, false), (3, 1, false), (4, 1, false), (5, 1, false), (6, 1, false), (7, 1, false), (8, 1, false)] [.bool false, .bool false, .nilS, .nilS, .nilS, .nilS, .nilS, .bool false, .bool false]) := ⟨#[.bool false, .bool false, .slice none 0 0, .slice none 0 0, .slice none 0 0, .slice none 0 0, .slice none 0 0, .bool false, .bool false], by kernel_rfl, by kernel_rfl, rfl, rfl⟩
theorem tdok_79 (E : Env) : TDok P0 E 79 (.sl .rule) := ⟨118, by kernel_rfl, by kernel_rfl, by kernel_rfl, (fun h => by cases h), .agg #[.int .i64 0, .string ⟨#[]⟩, .slice none 0 0], 48, by kernel_rfl, by decide, by decide, rfl⟩
theorem tdok_80 (E : Env) : TDok P0 E 80 (.st 9 [(0, 1, false), (1, 1, false), (2, 1, false), (3, 1, false), (4, 1, false), (5, 1, false), (6, 1, false), (7, 1, false), (8, 1, false)] [.bool false, .bool false, .nilS, .nilS, .nilS, .nilS, .nilS, .bool false, .bool false]) := ⟨#[.bool false, .bool false, .slice none 0 0, .slice none 0 0, .slice none 0 0, .slice none 0 0, .slice none 0 0, .bool false, .bool false], by kernel_rfl, by kernel_rfl, rfl, rfl⟩
theorem tdok_81 (E : Env) : TDok P0 E 81 (.st 9 [(0, 1, false), (1, 1, false), (2, 1, false), (3, 1, false), (4, 1, false), (5, 1, false), (6, 1, false), (7, 1, false), (8, 1, false)] [.bool false, .bool false, .nilS, .nilS, .nilS, .nilS, .nilS, .bool false, .bool false]) := ⟨#[.bool false, .bool false, .slice none 0 0, .slice none 0 0, .slice none 0 0, .slice none 0 0, .slice none 0 0, .bool false, .bool false], by kernel_rfl, by kernel_rfl, rfl, rfl⟩
theorem tdok_102 (E : Env) : TDok P0 E 102 (.one (.val (.pointer none))) := ⟨.pointer 69, .pointer none, by kernel_rfl, by kernel_rfl, rfl, rfl, ⟨_, rfl⟩⟩
theorem tdok_117 (E : Env) : TDok P0 E 117 (.st 3 [(0, 1, false), (1, 1, false), (2, 1, false)] [.int .i64 0, .str [], .nilS]) := ⟨#[.int .i64 0, .string ⟨#[]⟩, .slice none 0 0], by kernel_rfl, by kernel_rfl, rfl, rfl⟩
theorem tdok_118 (E : Env) : TDok P0 E 118 (.st 3 [(0, 1, false), (1, 1, false), (2, 1, false)] [.int .i64 0, .str [], .nilS]) := ⟨#[.int .i64 0, .string ⟨#[]⟩, .slice none 0 0], by kernel_rfl, by kernel_rfl, rfl, rfl⟩
theorem tdok_121 (E : Env) : TDok P0 E 121 (.st 2 [(0, 1, false), (1, 1, false)] [.str [], .nilS]) := ⟨#[.string ⟨#[]⟩, .slice none 0 0], by kernel_rfl, by kernel_rfl, rfl, rfl⟩
theorem tdok_122 (E : Env) : TDok P0 E 122 (.st 2 [(0, 1, false), (1, 1, false)] [.str [], .nilS]) := ⟨#[.string ⟨#[]⟩, .slice none 0 0], by kernel_rfl, by kernel_rfl, rfl, rfl⟩
theorem tdok_136 (E : Env) : TDok P0 E 136 (.sl .u8) := ⟨5, by kernel_rfl, by kernel_rfl, by kernel_rfl, (fun _ => by kernel_rfl), .int .u8 0, 1, by kernel_rfl, by decide, by decide, rfl⟩
theorem tdok_145 (E : Env) : TDok P0 E 145 (.one (.val (.pointer none))) := ⟨.pointer 41, .pointer none, by kernel_rfl, by kernel_rfl, rfl, rfl, ⟨_, rfl⟩⟩
theorem tdok_150 (E : Env) : TDok P0 E 150 (.st 3 [(0, 1, false), (1, 1, false), (2, 1, false)] [.int .i64 0, .str [], .nilS]) := ⟨#[.int .i64 0, .string ⟨#[]⟩, .slice none 0 0], by kernel_rfl, by kernel_rfl, rfl, rfl⟩
theorem tdok_156 (E : Env) : TDok P0 E 156 (.one (.val (.pointer none))) := ⟨.pointer 3, .pointer none, by kernel_rfl, by kernel_rfl, rfl, rfl, ⟨_, rfl⟩⟩
theorem tdok_157 (E : Env) : TDok P0 E 157 (.one (.int .u64 0)) := ⟨.int .u64, .int .u64 0, by kernel_rfl, by kernel_rfl, rfl, rfl, rfl⟩
theorem tdok_161 (E : Env) : TDok P0 E 161 (.one (.val (.pointer none))) := ⟨.pointer 163, .pointer none, by kernel_rfl, by kernel_rfl, rfl, rfl, ⟨_, rfl⟩⟩
theorem tdok_162 (E : Env) : TDok P0 E 162 (.st 2 [(0, 1, false), (1, 1, false)] [.val (.pointer none), .nilS]) := ⟨#[.pointer none, .slice none 0 0], by kernel_rfl, by kernel_rfl, rfl, rfl⟩
theorem tdok_163 (E : Env) : TDok P0 E 163 (.st 2 [(0, 1, false), (1, 1, false)] [.val (.pointer none), .nilS]) := ⟨#[.pointer none, .slice none 0 0], by kernel_rfl, by kernel_rfl, rfl, rfl⟩
theorem tdok_178 (E : Env) : TDok P0 E 178 (.one (.int .u32 0)) := ⟨.int .u32, .int .u32 0, by kernel_rfl, by kernel_rfl, rfl, rfl, rfl⟩
theorem tdok_181 (E : Env) : TDok P0 E 181 (.one (.int .u64 0)) := ⟨.int .u64, .int .u64 0, by kernel_rfl, by kernel_rfl, rfl, rfl, rfl⟩
theorem tdok_184 (E : Env) : TDok P0 E 184 (.one (.val (.pointer none))) := ⟨.pointer 5, .pointer none, by kernel_rfl, by kernel_rfl, rfl, rfl, ⟨_, rfl⟩⟩
theorem tdok_192 (E : Env) : TDok P0 E 192 (.st 4 [(0, 1, false), (1, 1, false), (2, 1, false), (3, 1, false)] [.val (.pointer none), .val (.pointer none), .val (.pointer none), .str []]) := ⟨#[.pointer none, .pointer none, .pointer none, .string ⟨#[]⟩], by kernel_rfl, by kernel_rfl, rfl, rfl⟩
theorem tdok_193 (E : Env) : TDok P0 E 193 (.st 4 [(0, 1, false), (1, 1, false), (2, 1, false), (3, 1, false)] [.val (.pointer none), .val (.pointer none), .val (.pointer none), .str []]) := ⟨#[.pointer none, .pointer none, .pointer none, .string ⟨#[]⟩], by kernel_rfl, by kernel_rfl, rfl, rfl⟩
theorem tdok_197 (E : Env) : TDok P0 E 197 (.one (.int .u8 0)) := ⟨.int .u8, .int .u8 0, by kernel_rfl, by kernel_rfl, rfl, rfl, rfl⟩
theorem tdok_198 (E : Env) : TDok P0 E 198 (.one (.int .u8 0)) := ⟨.int .u8, .int .u8 0, by kernel_rfl, by kernel_rfl, rfl, rfl, rfl⟩
theorem tdok_200 (E : Env) : TDok P0 E 200 (.one (.int .i32 0)) := ⟨.int .i32, .int .i32 0, by kernel_rfl, by kernel_rfl, rfl, rfl, rfl⟩
theorem tdok_201 (E : Env) : TDok P0 E 201 (.one (.int .i32 0)) := ⟨.int .i32, .int .i32 0, by kernel_rfl, by kernel_rfl, rfl, rfl, rfl⟩
theorem tdok_202 (E : Env) : TDok P0 E 202 (.st 11 [(0, 1, false), (1, 1, false), (2, 1, false), (3, 1, false), (4, 1, false), (5, 1, false), (6, 1, false), (7, 1, false), (8, 1, false), (9, 1, false), (10, 1, false)] [.int .u64 0, .int .u64 0, .int .u32 0, .int .u8 0, .int .u8 0, .int .u8 0, .int .u8 0, .val .nilFunc, .val (.pointer none), .int .i32 0, .int .i32 0]) := ⟨#[.int .u64 0, .int .u64 0, .int .u32 0, .int .u8 0, .int .u8 0, .int .u8 0, .int .u8 0, .nilFunc, .pointer none, .int .i32 0, .int .i32 0], by kernel_rfl, by kernel_rfl, rfl, rfl⟩
theorem tdok_203 (E : Env) : TDok P0 E 203 (.st 11 [(0, 1, false), (1, 1, false), (2, 1, false), (3, 1, false), (4, 1, false), (5, 1, false), (6, 1, false), (7, 1, false), (8, 1, false), (9, 1, false), (10, 1, false)] [.int .u64 0, .int .u64 0, .int .u32 0, .int .u8 0, .int .u8 0, .int .u8 0, .int .u8 0, .val .nilFunc, .val (.pointer none), .int .i32 0, .int .i32 0]) := ⟨#[.int .u64 0, .int .u64 0, .int .u32 0, .int .u8 0, .int .u8 0, .int .u8 0, .int .u8 0, .nilFunc, .pointer none, .int .i32 0, .int .i32 0], by kernel_rfl, by kernel_rfl, rfl, rfl⟩
theorem tdok (E : Env) (t : TypeId) : TDok P0 E t (td t) := by
  unfold td
  split
  · exact tdok_2 E
  · exact tdok_3 E
  · exact tdok_4 E
  · exact tdok_5 E
  · exact tdok_6 E
  · exact tdok_7 E
  · exact tdok_8 E
  · exact tdok_9 E
  · exact tdok_10 E
  · exact tdok_11 E
  · exact tdok_12 E
  · exact tdok_13 E
  · exact tdok_14 E
  · exact tdok_15 E
  · exact tdok_16 E
  · exact tdok_17 E
  · exact tdok_18 E
  · exact tdok_19 E
  · exact tdok_21 E
  · exact tdok_22 E
  · exact tdok_24 E
  · exact tdok_25 E
  · exact tdok_26 E
  · exact tdok_27 E
  · exact tdok_36 E
  · exact tdok_38 E
  · exact tdok_41 E
  · exact tdok_48 E
  · exact tdok_49 E
  · exact tdok_50 E
  · exact tdok_55 E
  · exact tdok_62 E
  · exact tdok_63 E
  · exact tdok_64 E
  · exact tdok_67 E
  · exact tdok_68 E
  · exact tdok_69 E
  · exact tdok_75 E
  · exact tdok_76 E
  · exact tdok_77 E
  · exact tdok_79 E
  · exact tdok_80 E
  · exact tdok_81 E
  · exact tdok_102 E
  · exact tdok_117 E
  · exact tdok_118 E
  · exact tdok_121 E
  · exact tdok_122 E
  · exact tdok_136 E
  · exact tdok_145 E
  · exact tdok_150 E
  · exact tdok_156 E
  · exact tdok_157 E
  · exact tdok_161 E
  · exact tdok_162 E
  · exact tdok_163 E
  · exact tdok_178 E
  · exact tdok_181 E
  · exact tdok_184 E
  · exact tdok_192 E
  · exact tdok_193 E
  · exact tdok_197 E
  · exact tdok_198 E
  · exact tdok_200 E
  · exact tdok_201 E
  · exact tdok_202 E
  · exact tdok_203 E
  · trivial
def eqt : TypeId → Bool
  | 49 => true
  | 50 => true
  | 55 => true
  | _ => false
@[push_cast] theorem eqt_49 : eqt 49 = true := rfl
@[push_cast] theorem eqt_50 : eqt 50 = true := rfl
@[push_cast] theorem eqt_55 : eqt 55 = true := rfl
theorem eqt_ok (t : TypeId) (h : eqt t = true) : EqS P0 t := by
  unfold eqt at h
  split at h
  · exact eqS_ofB (by kernel_rfl)
  · exact eqS_ofB (by kernel_rfl)
  · exact eqS_ofB (by kernel_rfl)
  · cases h
def ety0 : K → TypeId := fun _ => 0
def mk (l : List (FuncId × Spec)) (d : List (Nat × List Nat × List (List Nat))) (g : List (Nat × List Gho) := []) (il : List (FuncId × Inl) := []) (fd : Option FuncId := none) : Env := ⟨td, ety0, calOf l, drOf d, eqt, ghOf g, inlF il, fndF fd⟩
theorem mixed : P0.follows .mixedOrders = true := by kernel_rfl
theorem mkOk {l : List (FuncId × Spec)} {d : List (Nat × List Nat × List (List Nat))} {g : List (Nat × List Gho)} {il : List (FuncId × Inl)} {fd : Option FuncId} (h : Rows P0 ety0 l) (hi : Inls P0 il := by exact .nil) (hf : Fnds P0 fd := by exact .nil) : EnvOk P0 (mk l d g il fd) := EnvOk.of mixed tdok h _ _ eqt_ok _ _ hi.get _ hf.get
end Go.Ab
