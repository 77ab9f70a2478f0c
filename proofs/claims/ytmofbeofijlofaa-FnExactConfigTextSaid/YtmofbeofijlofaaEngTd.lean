/- The table of types. -/
import Derived.Test.YtmofbeofijlofaaEng3
import Derived.Test.YtmofbeofijlofaaProg
namespace Go.Ab
open Go
noncomputable abbrev P0 : Program := Go.Proofs.Try.prog
def td : TypeId → TD
  | 2 => .one (.int .i64 0)
  | 3 => .one (.int .i64 0)
  | 4 => .one (.bool false)
  | 5 => .one (.int .u8 0)
  | 6 => .one (.int .u8 0)
  | 7 => .st 4 [(0, 1, false), (1, 1, false), (2, 1, false), (3, 1, false)] [.int .i64 0, .int .i64 0, .bool false, .int .u8 0]
  | 8 => .st 4 [(0, 1, false), (1, 1, false), (2, 1, false), (3, 1, false)] [.int .i64 0, .int .i64 0, .bool false, .int .u8 0]
  | 9 => .one (.str [])
  | 10 => .one (.str [])
  | 11 => .one (.str [])
  | 12 => .one (.int .u64 0)
  | 13 => .st 2 [(0, 1, false), (1, 1, false)] [.str [], .int .u64 0]
  | 14 => .st 2 [(0, 1, false), (1, 1, false)] [.str [], .int .u64 0]
  | 15 => .one (.val (.pointer none))
  | 16 => .one (.val (.pointer none))
  | 17 => .one (.val (.pointer none))
  | 18 => .st 1 [(0, 1, false)] [.val (.pointer none)]
  | 19 => .st 1 [(0, 1, false)] [.val (.pointer none)]
  | 21 => .one (.int .i32 0)
  | 22 => .st 2 [(0, 1, false), (1, 1, false)] [.int .i64 0, .str []]
  | 23 => .st 2 [(0, 1, false), (1, 1, false)] [.int .i64 0, .str []]
  | 27 => .st 2 [(0, 1, false), (1, 1, false)] [.int .i64 0, .str []]
  | 30 => .sl .rule
  | 31 => .sl .str
  | 32 => .st 9 [(0, 1, false), (1, 1, false), (2, 1, false), (3, 1, false), (4, 1, false), (5, 1, false), (6, 1, false), (7, 1, false), (8, 1, false)] [.bool false, .bool false, .nilS, .nilS, .nilS, .nilS, .nilS, .bool false, .bool false]
  | 33 => .st 9 [(0, 1, false), (1, 1, false), (2, 1, false), (3, 1, false), (4, 1, false), (5, 1, false), (6, 1, false), (7, 1, false), (8, 1, false)] [.bool false, .bool false, .nilS, .nilS, .nilS, .nilS, .nilS, .bool false, .bool false]
  | 36 => .sl .rule
  | 37 => .st 9 [(0, 1, false), (1, 1, false), (2, 1, false), (3, 1, false), (4, 1, false), (5, 1, false), (6, 1, false), (7, 1, false), (8, 1, false)] [.bool false, .bool false, .nilS, .nilS, .nilS, .nilS, .nilS, .bool false, .bool false]
  | 38 => .st 9 [(0, 1, false), (1, 1, false), (2, 1, false), (3, 1, false), (4, 1, false), (5, 1, false), (6, 1, false), (7, 1, false), (8, 1, false)] [.bool false, .bool false, .nilS, .nilS, .nilS, .nilS, .nilS, .bool false, .bool false]
  | 42 => .sl .node
  | 43 => .sl .int
  | 44 => .st 2 [(0, 1, false), (1, 1, false)] [.str [], .str []]
  | 45 => .st 2 [(0, 1, false), (1, 1, false)] [.str [], .str []]
  | 48 => .sl .node
  | 53 => .st 2 [(0, 1, false), (1, 1, false)] [.str [], .str []]
  | 74 => .sl .attr
  | 75 => .st 6 [(0, 1, false), (1, 1, false), (2, 1, false), (3, 1, false), (4, 1, false), (5, 1, false)] [.int .i64 0, .int .i64 0, .str [], .str [], .nilS, .nilS]
  | 76 => .st 6 [(0, 1, false), (1, 1, false), (2, 1, false), (3, 1, false), (4, 1, false), (5, 1, false)] [.int .i64 0, .int .i64 0, .str [], .str [], .nilS, .nilS]
  | 79 => .sl .attr
  | 80 => .st 6 [(0, 1, false), (1, 1, false), (2, 1, false), (3, 1, false), (4, 1, false), (5, 1, false)] [.int .i64 0, .int .i64 0, .str [], .str [], .nilS, .nilS]
  | 81 => .st 6 [(0, 1, false), (1, 1, false), (2, 1, false), (3, 1, false), (4, 1, false), (5, 1, false)] [.int .i64 0, .int .i64 0, .str [], .str [], .nilS, .nilS]
  | 91 => .one (.val (.pointer none))
  | 100 => .st 3 [(0, 1, false), (1, 1, false), (2, 1, false)] [.int .i64 0, .str [], .nilS]
  | 101 => .st 3 [(0, 1, false), (1, 1, false), (2, 1, false)] [.int .i64 0, .str [], .nilS]
  | 104 => .st 3 [(0, 1, false), (1, 1, false), (2, 1, false)] [.int .i64 0, .str [], .nilS]
  | 123 => .sl .u8
  | 128 => .one (.int .u64 0)
  | 133 => .one (.val (.pointer none))
  | 134 => .st 2 [(0, 1, false), (1, 1, false)] [.val (.pointer none), .nilS]
  | 135 => .st 2 [(0, 1, false), (1, 1, false)] [.val (.pointer none), .nilS]
  | 150 => .one (.val (.pointer none))
  | 153 => .one (.val (.pointer none))
  | 160 => .st 4 [(0, 1, false), (1, 1, false), (2, 1, false), (3, 1, false)] [.val (.pointer none), .val (.pointer none), .val (.pointer none), .str []]
  | 161 => .st 4 [(0, 1, false), (1, 1, false), (2, 1, false), (3, 1, false)] [.val (.pointer none), .val (.pointer none), .val (.pointer none), .str []]
  | 166 => .one (.int .u32 0)
  | 167 => .one (.int .u8 0)
  | 168 => .one (.int .u8 0)
  | 170 => .one (.int .i32 0)
  | 171 => .one (.int .i32 0)
  | 172 => .st 11 [(0, 1, false), (1, 1, false), (2, 1, false), (3, 1, false), (4, 1, false), (5, 1, false), (6, 1, false), (7, 1, false), (8, 1, false), (9, 1, false), (10, 1, false)] [.int .u64 0, .int .u64 0, .int .u32 0, .int .u8 0, .int .u8 0, .int .u8 0, .int .u8 0, .val .nilFunc, .val (.pointer none), .int .i32 0, .int .i32 0]
  | 173 => .st 11 [(0, 1, false), (1, 1, false), (2, 1, false), (3, 1, false), (4, 1, false), (5, 1, false), (6, 1, false), (7, 1, false), (8, 1, false), (9, 1, false), (10, 1, false)] [.int .u64 0, .int .u64 0, .int .u32 0, .int .u8 0, .int .u8 0, .int .u8 0, .int .u8 0, .val .nilFunc, .val (.pointer none), .int .i32 0, .int .i32 0]
  | _ => .unk
@[push_cast] theorem td_2 : td 2 = .one (.int .i64 0) := rfl
@[push_cast] theorem td_3 : td 3 = .one (.int .i64 0) := rfl
@[push_cast] theorem td_4 : td 4 = .one (.bool false) := rfl
@[push_cast] theorem td_5 : td 5 = .one (.int .u8 0) := rfl
@[push_cast] theorem td_6 : td 6 = .one (.int .u8 0) := rfl
@[push_cast] theorem td_7 : td 7 = .st 4 [(0, 1, false), (1, 1, false), (2, 1, false), (3, 1, false)] [.int .i64 0, .int .i64 0, .bool false, .int .u8 0] := rfl
@[push_cast] theorem td_8 : td 8 = .st 4 [(0, 1, false), (1, 1, false), (2, 1, false), (3, 1, false)] [.int .i64 0, .int .i64 0, .bool false, .int .u8 0] := rfl
@[push_cast] theorem td_9 : td 9 = .one (.str []) := rfl
@[push_cast] theorem td_10 : td 10 = .one (.str []) := rfl
@[push_cast] theorem td_11 : td 11 = .one (.str []) := rfl
@[push_cast] theorem td_12 : td 12 = .one (.int .u64 0) := rfl
@[push_cast] theorem td_13 : td 13 = .st 2 [(0, 1, false), (1, 1, false)] [.str [], .int .u64 0] := rfl
@[push_cast] theorem td_14 : td 14 = .st 2 [(0, 1, false), (1, 1, false)] [.str [], .int .u64 0] := rfl
@[push_cast] theorem td_15 : td 15 = .one (.val (.pointer none)) := rfl
@[push_cast] theorem td_16 : td 16 = .one (.val (.pointer none)) := rfl
@[push_cast] theorem td_17 : td 17 = .one (.val (.pointer none)) := rfl
@[push_cast] theorem td_18 : td 18 = .st 1 [(0, 1, false)] [.val (.pointer none)] := rfl
@[push_cast] theorem td_19 : td 19 = .st 1 [(0, 1, false)] [.val (.pointer none)] := rfl
@[push_cast] theorem td_21 : td 21 = .one (.int .i32 0) := rfl
@[push_cast] theorem td_22 : td 22 = .st 2 [(0, 1, false), (1, 1, false)] [.int .i64 0, .str []] := rfl
@[push_cast] theorem td_23 : td 23 = .st 2 [(0, 1, false), (1, 1, false)] [.int .i64 0, .str []] := rfl
@[push_cast] theorem td_27 : td 27 = .st 2 [(0, 1, false), (1, 1, false)] [.int .i64 0, .str []] := rfl
@[push_cast] theorem td_30 : td 30 = .sl .rule := rfl
@[push_cast] theorem td_31 : td 31 = .sl .str := rfl
@[push_cast] theorem td_32 : td 32 = .st 9 [(0, 1, false), (1, 1, false), (2, 1, false), (3, 1, false), (4, 1, false), (5, 1, false), (6, 1, false), (7, 1, false), (8, 1, false)] [.bool false, .bool false, .nilS, .nilS, .nilS, .nilS, .nilS, .bool false, .bool false] := rfl
@[push_cast] theorem td_33 : td 33 = .st 9 [(0, 1, false), (1, 1, false), (2, 1, false), (3, 1, false), (4, 1, false), (5, 1, false), (6, 1, false), (7, 1, false), (8, 1, false)] [.bool false, .bool false, .nilS, .nilS, .nilS, .nilS, .nilS, .bool false, .bool false] := rfl
@[push_cast] theorem td_36 : td 36 = .sl .rule := rfl
@[push_cast] theorem td_37 : td 37 = .st 9 [(0, 1, false), (1, 1, false), (2, 1, false), (3, 1, false), (4, 1, false), (5, 1, false), (6, 1, false), (7, 1, false), (8, 1, false)] [.bool false, .bool false, .nilS, .nilS, .nilS, .nilS, .nilS, .bool false, .bool false] := rfl
@[push_cast] theorem td_38 : td 38 = .st 9 [(0, 1, false), (1, 1, false), (2, 1, false), (3, 1, false), (4, 1, false), (5, 1, false), (6, 1, false), (7, 1, false), (8, 1, false)] [.bool false, .bool false, .nilS, .nilS, .nilS, .nilS, .nilS, .bool false, .bool false] := rfl
@[push_cast] theorem td_42 : td 42 = .sl .node := rfl
@[push_cast] theorem td_43 : td 43 = .sl .int := rfl
@[push_cast] theorem td_44 : td 44 = .st 2 [(0, 1, false), (1, 1, false)] [.str [], .str []] := rfl
@[push_cast] theorem td_45 : td 45 = .st 2 [(0, 1, false), (1, 1, false)] [.str [], .str []] := rfl
@[push_cast] theorem td_48 : td 48 = .sl .node := rfl
@[push_cast] theorem td_53 : td 53 = .st 2 [(0, 1, false), (1, 1, false)] [.str [], .str []] := rfl
@[push_cast] theorem td_74 : td 74 = .sl .attr := rfl
@[push_cast] theorem td_75 : td 75 = .st 6 [(0, 1, false), (1, 1, false), (2, 1, false), (3, 1, false), (4, 1, false), (5, 1, false)] [.int .i64 0, .int .i64 0, .str [], .str [], .nilS, .nilS] := rfl
@[push_cast] theorem td_76 : td 76 = .st 6 [(0, 1, false), (1, 1, false), (2, 1, false), (3, 1, false), (4, 1, false), (5, 1, false)] [.int .i64 0, .int .i64 0, .str [], .str [], .nilS, .nilS] := rfl
@[push_cast] theorem td_79 : td 79 = .sl .attr := rfl
@[push_cast] theorem td_80 : td 80 = .st 6 [(0, 1, false), (1, 1, false), (2, 1, false), (3, 1, false), (4, 1, false), (5, 1, false)] [.int .i64 0, .int .i64 0, .str [], .str [], .nilS, .nilS] := rfl
@[push_cast] theorem td_81 : td 81 = .st 6 [(0, 1, false), (1, 1, false), (2, 1, false), (3, 1, false), (4, 1, false), (5, 1, false)] [.int .i64 0, .int .i64 0, .str [], .str [], .nilS, .nilS] := rfl
@[push_cast] theorem td_91 : td 91 = .one (.val (.pointer none)) := rfl
@[push_cast] theorem td_100 : td 100 = .st 3 [(0, 1, false), (1, 1, false), (2, 1, false)] [.int .i64 0, .str [], .nilS] := rfl
@[push_cast] theorem td_101 : td 101 = .st 3 [(0, 1, false), (1, 1, false), (2, 1, false)] [.int .i64 0, .str [], .nilS] := rfl
@[push_cast] theorem td_104 : td 104 = .st 3 [(0, 1, false), (1, 1, false), (2, 1, false)] [.int .i64 0, .str [], .nilS] := rfl
@[push_cast] theorem td_123 : td 123 = .sl .u8 := rfl
@[push_cast] theorem td_128 : td 128 = .one (.int .u64 0) := rfl
@[push_cast] theorem td_133 : td 133 = .one (.val (.pointer none)) := rfl
@[push_cast] theorem td_134 : td 134 = .st 2 [(0, 1, false), (1, 1, false)] [.val (.pointer none), .nilS] := rfl
@[push_cast] theorem td_135 : td 135 = .st 2 [(0, 1, false), (1, 1, false)] [.val (.pointer none), .nilS] := rfl
@[push_cast] theorem td_150 : td 150 = .one (.val (.pointer none)) := rfl
@[push_cast] theorem td_153 : td 153 = .one (.val (.pointer none)) := rfl
@[push_cast] theorem td_160 : td 160 = .st 4 [(0, 1, false), (1, 1, false), (2, 1, false), (3, 1, false)] [.val (.pointer none), .val (.pointer none), .val (.pointer none), .str []] := rfl
@[push_cast] theorem td_161 : td 161 = .st 4 [(0, 1, false), (1, 1, false), (2, 1, false), (3, 1, false)] [.val (.pointer none), .val (.pointer none), .val (.pointer none), .str []] := rfl
@[push_cast] theorem td_166 : td 166 = .one (.int .u32 0) := rfl
@[push_cast] theorem td_167 : td 167 = .one (.int .u8 0) := rfl
@[push_cast] theorem td_168 : td 168 = .one (.int .u8 0) := rfl
@[push_cast] theorem td_170 : td 170 = .one (.int .i32 0) := rfl
@[push_cast] theorem td_171 : td 171 = .one (.int .i32 0) := rfl
@[push_cast] theorem td_172 : td 172 = .st 11 [(0, 1, false), (1, 1, false), (2, 1, false), (3, 1, false), (4, 1, false), (5, 1, false), (6, 1, false), (7, 1, false), (8, 1, false), (9, 1, false), (10, 1, false)] [.int .u64 0, .int .u64 0, .int .u32 0, .int .u8 0, .int .u8 0, .int .u8 0, .int .u8 0, .val .nilFunc, .val (.pointer none), .int .i32 0, .int .i32 0] := rfl
@[push_cast] theorem td_173 : td 173 = .st 11 [(0, 1, false), (1, 1, false), (2, 1, false), (3, 1, false), (4, 1, false), (5, 1, false), (6, 1, false), (7, 1, false), (8, 1, false), (9, 1, false), (10, 1, false)] [.int .u64 0, .int .u64 0, .int .u32 0, .int .u8 0, .int .u8 0, .int .u8 0, .int .u8 0, .val .nilFunc, .val (.pointer none), .int .i32 0, .int .i32 0] := rfl
theorem tdok_2 (E : Env) : TDok P0 E 2 (.one (.int .i64 0)) := ⟨.int .i64, .int .i64 0, by kernel_rfl, by kernel_rfl, rfl, rfl, rfl⟩
theorem tdok_3 (E : Env) : TDok P0 E 3 (.one (.int .i64 0)) := ⟨.int .i64, .int .i64 0, by kernel_rfl, by kernel_rfl, rfl, rfl, rfl⟩
theorem tdok_4 (E : Env) : TDok P0 E 4 (.one (.bool false)) := ⟨.bool, .bool false, by kernel_rfl, by kernel_rfl, rfl, rfl, rfl⟩
theorem tdok_5 (E : Env) : TDok P0 E 5 (.one (.int .u8 0)) := ⟨.int .u8, .int .u8 0, by kernel_rfl, by kernel_rfl, rfl, rfl, rfl⟩
theorem tdok_6 (E : Env) : TDok P0 E 6 (.one (.int .u8 0)) := ⟨.int .u8, .int .u8 0, by kernel_rfl, by kernel_rfl, rfl, rfl, rfl⟩
theorem tdok_7 (E : Env) : TDok P0 E 7 (.st 4 [(0, 1, false), (1, 1, false), (2, 1, false), (3, 1, false)] [.int .i64 0, .int .i64 0, .bool false, .int .u8 0]) := ⟨#[.int .i64 0, .int .i64 0, .bool false, .int .u8 0], by kernel_rfl, by kernel_rfl, rfl, rfl⟩
theorem tdok_8 (E : Env) : TDok P0 E 8 (.st 4 [(0, 1, false), (1, 1, false), (2, 1, false), (3, 1, false)] [.int .i64 0, .int .i64 0, .bool false, .int .u8 0]) := ⟨#[.int .i64 0, .int .i64 0, .bool false, .int .u8 0], by kernel_rfl, by kernel_rfl, rfl, rfl⟩
theorem tdok_9 (E : Env) : TDok P0 E 9 (.one (.str [])) := ⟨.string, .string ⟨#[]⟩, by kernel_rfl, by kernel_rfl, rfl, rfl, rfl⟩
theorem tdok_10 (E : Env) : TDok P0 E 10 (.one (.str [])) := ⟨.string, .string ⟨#[]⟩, by kernel_rfl, by kernel_rfl, rfl, rfl, rfl⟩
theorem tdok_11 (E : Env) : TDok P0 E 11 (.one (.str [])) := ⟨.string, .string ⟨#[]⟩, by kernel_rfl, by kernel_rfl, rfl, rfl, rfl⟩
theorem tdok_12 (E : Env) : TDok P0 E 12 (.one (.int .u64 0)) := ⟨.int .u64, .int .u64 0, by kernel_rfl, by kernel_rfl, rfl, rfl, rfl⟩
theorem tdok_13 (E : Env) : TDok P0 E 13 (.st 2 [(0, 1, false), (1, 1, false)] [.str [], .int .u64 0]) := ⟨#[.string ⟨#[]⟩, .int .u64 0], by kernel_rfl, by kernel_rfl, rfl, rfl⟩
theorem tdok_14 (E : Env) : TDok P0 E 14 (.st 2 [(0, 1, false), (1, 1, false)] [.str [], .int .u64 0]) := ⟨#[.string ⟨#[]⟩, .int .u64 0], by kernel_rfl, by kernel_rfl, rfl, rfl⟩
theorem tdok_15 (E : Env) : TDok P0 E 15 (.one (.val (.pointer none))) := ⟨.pointer 161, .pointer none, by kernel_rfl, by kernel_rfl, rfl, rfl, trivial⟩
theorem tdok_16 (E : Env) : TDok P0 E 16 (.one (.val (.pointer none))) := ⟨.pointer 164, .pointer none, by kernel_rfl, by kernel_rfl, rfl, rfl, trivial⟩
theorem tdok_17 (E : Env) : TDok P0 E 17 (.one (.val (.pointer none))) := ⟨.pointer 173, .pointer none, by kernel_rfl, by kernel_rfl, rfl, rfl, trivial⟩
theorem tdok_18 (E : Env) : TDok P0 E 18 (.st 1 [(0, 1, false)] [.val (.pointer none)]) := ⟨#[.pointer none], by kernel_rfl, by kernel_rfl, rfl, rfl⟩
theorem tdok_19 (E : Env) : TDok P0 E 19 (.st 1 [(0, 1, false)] [.val (.pointer none)]) := ⟨#[.pointer none], by kernel_rfl, by kernel_rfl, rfl, rfl⟩
theorem tdok_21 (E : Env) : TDok P0 E 21 (.one (.int .i32 0)) := ⟨.int .i32, .int .i32 0, by kernel_rfl, by kernel_rfl, rfl, rfl, rfl⟩
theorem tdok_22 (E : Env) : TDok P0 E 22 (.st 2 [(0, 1, false), (1, 1, false)] [.int .i64 0, .str []]) := ⟨#[.int .i64 0, .string ⟨#[]⟩], by kernel_rfl, by kernel_rfl, rfl, rfl⟩
theorem tdok_23 (E : Env) : TDok P0 E 23 (.st 2 [(0, 1, false), (1, 1, false)] [.int .i64 0, .str []]) := ⟨#[.int .i64 0, .string ⟨#[]⟩], by kernel_rfl, by kernel_rfl, rfl, rfl⟩
theorem tdok_27 (E : Env) : TDok P0 E 27 (.st 2 [(0, 1, false), (1, 1, false)] [.int .i64 0, .str []]) := ⟨#[.int .i64 0, .string ⟨#[]⟩], by kernel_rfl, by kernel_rfl, rfl, rfl⟩
theorem tdok_30 (E : Env) : TDok P0 E 30 (.sl .rule) := ⟨101, by kernel_rfl, by kernel_rfl, by kernel_rfl, (fun h => by cases h), .agg #[.int .i64 0, .string ⟨#[]⟩, .slice none 0 0], 48, by kernel_rfl, by decide, by decide, rfl⟩
theorem tdok_31 (E : Env) : TDok P0 E 31 (.sl .str) := ⟨9, by kernel_rfl, by kernel_rfl, by kernel_rfl, (fun h => by cases h), .string ⟨#[]⟩, 16, by kernel_rfl, by decide, by decide, rfl⟩
theorem tdok_32 (E : Env) : TDok P0 E 32 (.st 9 [(0, 1, false), (1, 1, false), (2, 1, false), (3, 1, false), (4, 1, false), (5, 1, false), (6, 1, false), (7, 1, false), (8, 1, false)] [.bool false, .bool false, .nilS, .nilS, .nilS, .nilS, .nilS, .bool false, .bool false]) := ⟨#[.bool false, .bool false, .slice none 0 0, .slice none 0 0, .slice none 0 0, .slice none 0 0, .slice none 0 0, .bool false, .bool false], by kernel_rfl, by kernel_rfl, rfl, rfl⟩
theorem tdok_33 (E : Env) : TDok P0 E 33 (.st 9 [(0, 1, false), (1, 1, false), (2, 1, false), (3, 1, false), (4, 1, false), (5, 1, false), (6, 1, false), (7, 1, false), (8, 1, false)] [.bool false, .bool false, .nilS, .nilS, .nilS, .nilS, .nilS, .bool false, .bool false]) := ⟨#[.bool false, .bool false, .slice none 0 0, .slice none 0 0, .slice none 0 0, .slice none 0 0, .slice none 0 0, .bool false, .bool false], by kernel_rfl, by kernel_rfl, rfl, rfl⟩
theorem tdok_36 (E : Env) : TDok P0 E 36 (.sl .rule) := ⟨104, by kernel_rfl, by kernel_rfl, by kernel_rfl, (fun h => by cases h), .agg #[.int .i64 0, .string ⟨#[]⟩, .slice none 0 0], 48, by kernel_rfl, by decide, by decide, rfl⟩
theorem tdok_37 (E : Env) : TDok P0 E 37 (.st 9 [(0, 1, false), (1, 1, false), (2, 1, false), (3, 1, false), (4, 1, false), (5, 1, false), (6, 1, false), (7, 1, false), (8, 1, false)] [.bool false, .bool false, .nilS, .nilS, .nilS, .nilS, .nilS, .bool false, .bool false]) := ⟨#[.bool false, .bool false, .slice none 0 0, .slice none 0 0, .slice none 0 0, .slice none 0 0, .slice none 0 0, .bool false, .bool false], by kernel_rfl, by kernel_rfl, rfl, rfl⟩
theorem tdok_38 (E : Env) : TDok P0 E 38 (.st 9 [(0, 1, false), (1, 1, false), (2, 1, false), (3, 1, false), (4, 1, false), (5, 1, false), (6, 1, false), (7, 1, false), (8, 1, false)] [.bool false, .bool false, .nilS, .nilS, .nilS, .nilS, .nilS, .bool false, .bool false]) := ⟨#[.bool false, .bool false, .slice none 0 0, .slice none 0 0, .slice none 0 0, .slice none 0 0, .slice none 0 0, .bool false, .bool false], by kernel_rfl, by kernel_rfl, rfl, rfl⟩
theorem tdok_42 (E : Env) : TDok P0 E 42 (.sl .node) := ⟨76, by kernel_rfl, by kernel_rfl, by kernel_rfl, (fun h => by cases h), .agg #[.int .i64 0, .int .i64 0, .string ⟨#[]⟩, .string ⟨#[]⟩, .slice none 0 0, .slice none 0 0], 96, by kernel_rfl, by decide, by decide, rfl⟩
theorem tdok_43 (E : Env) : TDok P0 E 43 (.sl .int) := ⟨3, by kernel_rfl, by kernel_rfl, by kernel_rfl, (fun h => by cases h), .int .i64 0, 8, by kernel_rfl, by decide, by decide, rfl⟩
theorem tdok_44 (E : Env) : TDok P0 E 44 (.st 2 [(0, 1, false), (1, 1, false)] [.str [], .str []]) := ⟨#[.string ⟨#[]⟩, .string ⟨#[]⟩], by kernel_rfl, by kernel_rfl, rfl, rfl⟩
theorem tdok_45 (E : Env) : TDok P0 E 45 (.st 2 [(0, 1, false), (1, 1, false)] [.str [], .str []]) := ⟨#[.string ⟨#[]⟩, .string ⟨#[]⟩], by kernel_rfl, by kernel_rfl, rfl, rfl⟩
theorem tdok_48 (E : Env) : TDok P0 E 48 (.sl .node) := ⟨81, by kernel_rfl, by kernel_rfl, by kernel_rfl, (fun h => by cases h), .agg #[.int .i64 0, .int .i64 0, .string ⟨#[]⟩, .string ⟨#[]⟩, .slice none 0 0, .slice none 0 0], 96, by kernel_rfl, by decide, by decide, rfl⟩
theorem tdok_53 (E : Env) : TDok P0 E 53 (.st 2 [(0, 1, false), (1, 1, false)] [.str [], .str []]) := ⟨#[.string ⟨#[]⟩, .string ⟨#[]⟩], by kernel_rfl, by kernel_rfl, rfl, rfl⟩
theorem tdok_74 (E : Env) : TDok P0 E 74 (.sl .attr) := ⟨45, by kernel_rfl, by kernel_rfl, by kernel_rfl, (fun h => by cases h), .agg #[.string ⟨#[]⟩, .string ⟨#[]⟩], 32, by kernel_rfl, by decide, by decide, rfl⟩
theorem tdok_75 (E : Env) : TDok P0 E 75 (.st 6 [(0, 1, false), (1, 1, false), (2, 1, false), (3, 1, false), (4, 1, false), (5, 1, false)] [.int .i64 0, .int .i64 0, .str [], .str [], .nilS, .nilS]) := ⟨#[.int .i64 0, .int .i64 0, .string ⟨#[]⟩, .string ⟨#[]⟩, .slice none 0 0, .slice none 0 0], by kernel_rfl, by kernel_rfl, rfl, rfl⟩
theorem tdok_76 (E : Env) : TDok P0 E 76 (.st 6 [(0, 1, false), (1, 1, false), (2, 1, false), (3, 1, false), (4, 1, false), (5, 1, false)] [.int .i64 0, .int .i64 0, .str [], .str [], .nilS, .nilS]) := ⟨#[.int .i64 0, .int .i64 0, .string ⟨#[]⟩, .string ⟨#[]⟩, .slice none 0 0, .slice none 0 0], by kernel_rfl, by kernel_rfl, rfl, rfl⟩
theorem tdok_79 (E : Env) : TDok P0 E 79 (.sl .attr) := ⟨53, by kernel_rfl, by kernel_rfl, by kernel_rfl, (fun h => by cases h), .agg #[.string ⟨#[]⟩, .string ⟨#[]⟩], 32, by kernel_rfl, by decide, by decide, rfl⟩
theorem tdok_80 (E : Env) : TDok P0 E 80 (.st 6 [(0, 1, false), (1, 1, false), (2, 1, false), (3, 1, false), (4, 1, false), (5, 1, false)] [.int .i64 0, .int .i64 0, .str [], .str [], .nilS, .nilS]) := ⟨#[.int .i64 0, .int .i64 0, .string ⟨#[]⟩, .string ⟨#[]⟩, .slice none 0 0, .slice none 0 0], by kernel_rfl, by kernel_rfl, rfl, rfl⟩
theorem tdok_81 (E : Env) : TDok P0 E 81 (.st 6 [(0, 1, false), (1, 1, false), (2, 1, false), (3, 1, false), (4, 1, false), (5, 1, false)] [.int .i64 0, .int .i64 0, .str [], .str [], .nilS, .nilS]) := ⟨#[.int .i64 0, .int .i64 0, .string ⟨#[]⟩, .string ⟨#[]⟩, .slice none 0 0, .slice none 0 0], by kernel_rfl, by kernel_rfl, rfl, rfl⟩
theorem tdok_91 (E : Env) : TDok P0 E 91 (.one (.val (.pointer none))) := ⟨.pointer 81, .pointer none, by kernel_rfl, by kernel_rfl, rfl, rfl, trivial⟩
theorem tdok_100 (E : Env) : TDok P0 E 100 (.st 3 [(0, 1, false), (1, 1, false), (2, 1, false)] [.int .i64 0, .str [], .nilS]) := ⟨#[.int .i64 0, .string ⟨#[]⟩, .slice none 0 0], by kernel_rfl, by kernel_rfl, rfl, rfl⟩
theorem tdok_101 (E : Env) : TDok P0 E 101 (.st 3 [(0, 1, false), (1, 1, false), (2, 1, false)] [.int .i64 0, .str [], .nilS]) := ⟨#[.int .i64 0, .string ⟨#[]⟩, .slice none 0 0], by kernel_rfl, by kernel_rfl, rfl, rfl⟩
theorem tdok_104 (E : Env) : TDok P0 E 104 (.st 3 [(0, 1, false), (1, 1, false), (2, 1, false)] [.int .i64 0, .str [], .nilS]) := ⟨#[.int .i64 0, .string ⟨#[]⟩, .slice none 0 0], by kernel_rfl, by kernel_rfl, rfl, rfl⟩
theorem tdok_123 (E : Env) : TDok P0 E 123 (.sl .u8) := ⟨5, by kernel_rfl, by kernel_rfl, by kernel_rfl, (fun _ => by kernel_rfl), .int .u8 0, 1, by kernel_rfl, by decide, by decide, rfl⟩
theorem tdok_128 (E : Env) : TDok P0 E 128 (.one (.int .u64 0)) := ⟨.int .u64, .int .u64 0, by kernel_rfl, by kernel_rfl, rfl, rfl, rfl⟩
theorem tdok_133 (E : Env) : TDok P0 E 133 (.one (.val (.pointer none))) := ⟨.pointer 135, .pointer none, by kernel_rfl, by kernel_rfl, rfl, rfl, trivial⟩
theorem tdok_134 (E : Env) : TDok P0 E 134 (.st 2 [(0, 1, false), (1, 1, false)] [.val (.pointer none), .nilS]) := ⟨#[.pointer none, .slice none 0 0], by kernel_rfl, by kernel_rfl, rfl, rfl⟩
theorem tdok_135 (E : Env) : TDok P0 E 135 (.st 2 [(0, 1, false), (1, 1, false)] [.val (.pointer none), .nilS]) := ⟨#[.pointer none, .slice none 0 0], by kernel_rfl, by kernel_rfl, rfl, rfl⟩
theorem tdok_150 (E : Env) : TDok P0 E 150 (.one (.val (.pointer none))) := ⟨.pointer 5, .pointer none, by kernel_rfl, by kernel_rfl, rfl, rfl, trivial⟩
theorem tdok_153 (E : Env) : TDok P0 E 153 (.one (.val (.pointer none))) := ⟨.pointer 3, .pointer none, by kernel_rfl, by kernel_rfl, rfl, rfl, trivial⟩
theorem tdok_160 (E : Env) : TDok P0 E 160 (.st 4 [(0, 1, false), (1, 1, false), (2, 1, false), (3, 1, false)] [.val (.pointer none), .val (.pointer none), .val (.pointer none), .str []]) := ⟨#[.pointer none, .pointer none, .pointer none, .string ⟨#[]⟩], by kernel_rfl, by kernel_rfl, rfl, rfl⟩
theorem tdok_161 (E : Env) : TDok P0 E 161 (.st 4 [(0, 1, false), (1, 1, false), (2, 1, false), (3, 1, false)] [.val (.pointer none), .val (.pointer none), .val (.pointer none), .str []]) := ⟨#[.pointer none, .pointer none, .pointer none, .string ⟨#[]⟩], by kernel_rfl, by kernel_rfl, rfl, rfl⟩
theorem tdok_166 (E : Env) : TDok P0 E 166 (.one (.int .u32 0)) := ⟨.int .u32, .int .u32 0, by kernel_rfl, by kernel_rfl, rfl, rfl, rfl⟩
theorem tdok_167 (E : Env) : TDok P0 E 167 (.one (.int .u8 0)) := ⟨.int .u8, .int .u8 0, by kernel_rfl, by kernel_rfl, rfl, rfl, rfl⟩
theorem tdok_168 (E : Env) : TDok P0 E 168 (.one (.int .u8 0)) := ⟨.int .u8, .int .u8 0, by kernel_rfl, by kernel_rfl, rfl, rfl, rfl⟩
theorem tdok_170 (E : Env) : TDok P0 E 170 (.one (.int .i32 0)) := ⟨.int .i32, .int .i32 0, by kernel_rfl, by kernel_rfl, rfl, rfl, rfl⟩
theorem tdok_171 (E : Env) : TDok P0 E 171 (.one (.int .i32 0)) := ⟨.int .i32, .int .i32 0, by kernel_rfl, by kernel_rfl, rfl, rfl, rfl⟩
theorem tdok_172 (E : Env) : TDok P0 E 172 (.st 11 [(0, 1, false), (1, 1, false), (2, 1, false), (3, 1, false), (4, 1, false), (5, 1, false), (6, 1, false), (7, 1, false), (8, 1, false), (9, 1, false), (10, 1, false)] [.int .u64 0, .int .u64 0, .int .u32 0, .int .u8 0, .int .u8 0, .int .u8 0, .int .u8 0, .val .nilFunc, .val (.pointer none), .int .i32 0, .int .i32 0]) := ⟨#[.int .u64 0, .int .u64 0, .int .u32 0, .int .u8 0, .int .u8 0, .int .u8 0, .int .u8 0, .nilFunc, .pointer none, .int .i32 0, .int .i32 0], by kernel_rfl, by kernel_rfl, rfl, rfl⟩
theorem tdok_173 (E : Env) : TDok P0 E 173 (.st 11 [(0, 1, false), (1, 1, false), (2, 1, false), (3, 1, false), (4, 1, false), (5, 1, false), (6, 1, false), (7, 1, false), (8, 1, false), (9, 1, false), (10, 1, false)] [.int .u64 0, .int .u64 0, .int .u32 0, .int .u8 0, .int .u8 0, .int .u8 0, .int .u8 0, .val .nilFunc, .val (.pointer none), .int .i32 0, .int .i32 0]) := ⟨#[.int .u64 0, .int .u64 0, .int .u32 0, .int .u8 0, .int .u8 0, .int .u8 0, .int .u8 0, .nilFunc, .pointer none, .int .i32 0, .int .i32 0], by kernel_rfl, by kernel_rfl, rfl, rfl⟩
theorem tdok (E : Env) (t : TypeId) : TDok P0 E t (td t) := by
  unfold td
  split
  · exact tdok_2 E
  · exact tdok_3 E
  · exact tdok_4 E
  · exact tdok_5 E
  · exact tdok_6 E
  · exact tdok_7 E
  · exact tdok_8 E
  · exact tdok_9 E
  · exact tdok_10 E
  · exact tdok_11 E
  · exact tdok_12 E
  · exact tdok_13 E
  · exact tdok_14 E
  · exact tdok_15 E
  · exact tdok_16 E
  · exact tdok_17 E
  · exact tdok_18 E
  · exact tdok_19 E
  · exact tdok_21 E
  · exact tdok_22 E
  · exact tdok_23 E
  · exact tdok_27 E
  · exact tdok_30 E
  · exact tdok_31 E
  · exact tdok_32 E
  · exact tdok_33 E
  · exact tdok_36 E
  · exact tdok_37 E
  · exact tdok_38 E
  · exact tdok_42 E
  · exact tdok_43 E
  · exact tdok_44 E
  · exact tdok_45 E
  · exact tdok_48 E
  · exact tdok_53 E
  · exact tdok_74 E
  · exact tdok_75 E
  · exact tdok_76 E
  · exact tdok_79 E
  · exact tdok_80 E
  · exact tdok_81 E
  · exact tdok_91 E
  · exact tdok_100 E
  · exact tdok_101 E
  · exact tdok_104 E
  · exact tdok_123 E
  · exact tdok_128 E
  · exact tdok_133 E
  · exact tdok_134 E
  · exact tdok_135 E
  · exact tdok_150 E
  · exact tdok_153 E
  · exact tdok_160 E
  · exact tdok_161 E
  · exact tdok_166 E
  · exact tdok_167 E
  · exact tdok_168 E
  · exact tdok_170 E
  · exact tdok_171 E
  · exact tdok_172 E
  · exact tdok_173 E
  · trivial
def ety0 : K → TypeId := fun _ => 0
def mk (l : List (FuncId × Spec)) (d : List (Nat × List Nat × List (List Nat))) : Env := ⟨td, ety0, calOf l, drOf d⟩
theorem mixed : P0.follows .mixedOrders = true := by kernel_rfl
theorem mkOk {l : List (FuncId × Spec)} {d : List (Nat × List Nat × List (List Nat))} (h : Rows P0 ety0 l) : EnvOk P0 (mk l d) := EnvOk.of mixed tdok h _
end Go.Ab
