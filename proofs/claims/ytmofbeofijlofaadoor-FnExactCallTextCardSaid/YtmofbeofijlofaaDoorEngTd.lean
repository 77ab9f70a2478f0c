/- The table of types. -/
import Derived.Test.YtmofbeofijlofaaDoorEng3
import Derived.Test.YtmofbeofijlofaaDoorProg
namespace Go.Ab
open Go
noncomputable abbrev P0 : Program := Go.Proofs.Tryd.prog
def td : TypeId → TD
  | 2 => .one (.int .i64 0)
  | 3 => .one (.int .i64 0)
  | 4 => .one (.bool false)
  | 5 => .one (.int .u8 0)
  | 6 => .one (.int .u8 0)
  | 7 => .st 4 [(0, 1, false), (1, 1, false), (2, 1, false), (3, 1, false)] [.int .i64 0, .int .i64 0, .bool false, .int .u8 0]
  | 8 => .st 4 [(0, 1, false), (1, 1, false), (2, 1, false), (3, 1, false)] [.int .i64 0, .int .i64 0, .bool false, .int .u8 0]
  | 9 => .one (.str [])
  | 10 => .one (.str [])
  | 11 => .one (.str [])
  | 12 => .one (.int .u64 0)
  | 13 => .st 2 [(0, 1, false), (1, 1, false)] [.str [], .int .u64 0]
  | 14 => .st 2 [(0, 1, false), (1, 1, false)] [.str [], .int .u64 0]
  | 15 => .one (.val (.pointer none))
  | 16 => .one (.val (.pointer none))
  | 17 => .one (.val (.pointer none))
  | 18 => .st 1 [(0, 1, false)] [.val (.pointer none)]
  | 19 => .st 1 [(0, 1, false)] [.val (.pointer none)]
  | 21 => .one (.int .i32 0)
  | 22 => .sl .int
  | 28 => .st 6 [(0, 1, false), (1, 1, false), (2, 1, false), (3, 1, false), (4, 1, false), (5, 1, false)] [.int .i64 0, .int .i64 0, .int .i64 0, .nilS, .str [], .str []]
  | 29 => .st 6 [(0, 1, false), (1, 1, false), (2, 1, false), (3, 1, false), (4, 1, false), (5, 1, false)] [.int .i64 0, .int .i64 0, .int .i64 0, .nilS, .str [], .str []]
  | 32 => .st 6 [(0, 1, false), (1, 1, false), (2, 1, false), (3, 1, false), (4, 1, false), (5, 1, false)] [.int .i64 0, .int .i64 0, .int .i64 0, .nilS, .str [], .str []]
  | 44 => .sl .str
  | 50 => .sl .u8
  | 52 => .one (.val (.pointer none))
  | 53 => .st 2 [(0, 1, false), (1, 1, false)] [.val (.pointer none), .nilS]
  | 54 => .st 2 [(0, 1, false), (1, 1, false)] [.val (.pointer none), .nilS]
  | 63 => .one (.val (.pointer none))
  | 65 => .one (.int .u64 0)
  | 76 => .one (.int .u32 0)
  | 78 => .one (.int .u64 0)
  | 83 => .st 4 [(0, 1, false), (1, 1, false), (2, 1, false), (3, 1, false)] [.val (.pointer none), .val (.pointer none), .val (.pointer none), .str []]
  | 84 => .st 4 [(0, 1, false), (1, 1, false), (2, 1, false), (3, 1, false)] [.val (.pointer none), .val (.pointer none), .val (.pointer none), .str []]
  | 89 => .one (.int .u8 0)
  | 90 => .one (.int .u8 0)
  | 92 => .one (.int .i32 0)
  | 93 => .one (.int .i32 0)
  | 94 => .st 11 [(0, 1, false), (1, 1, false), (2, 1, false), (3, 1, false), (4, 1, false), (5, 1, false), (6, 1, false), (7, 1, false), (8, 1, false), (9, 1, false), (10, 1, false)] [.int .u64 0, .int .u64 0, .int .u32 0, .int .u8 0, .int .u8 0, .int .u8 0, .int .u8 0, .val .nilFunc, .val (.pointer none), .int .i32 0, .int .i32 0]
  | 95 => .st 11 [(0, 1, false), (1, 1, false), (2, 1, false), (3, 1, false), (4, 1, false), (5, 1, false), (6, 1, false), (7, 1, false), (8, 1, false), (9, 1, false), (10, 1, false)] [.int .u64 0, .int .u64 0, .int .u32 0, .int .u8 0, .int .u8 0, .int .u8 0, .int .u8 0, .val .nilFunc, .val (.pointer none), .int .i32 0, .int .i32 0]
  | _ => .unk
@[push_cast] theorem td_2 : td 2 = .one (.int .i64 0) := rfl
@[push_cast] theorem td_3 : td 3 = .one (.int .i64 0) := rfl
@[push_cast] theorem td_4 : td 4 = .one (.bool false) := rfl
@[push_cast] theorem td_5 : td 5 = .one (.int .u8 0) := rfl
@[push_cast] theorem td_6 : td 6 = .one (.int .u8 0) := rfl
@[push_cast] theorem td_7 : td 7 = .st 4 [(0, 1, false), (1, 1, false), (2, 1, false), (3, 1, false)] [.int .i64 0, .int .i64 0, .bool false, .int .u8 0] := rfl
@[push_cast] theorem td_8 : td 8 = .st 4 [(0, 1, false), (1, 1, false), (2, 1, false), (3, 1, false)] [.int .i64 0, .int .i64 0, .bool false, .int .u8 0] := rfl
@[push_cast] theorem td_9 : td 9 = .one (.str []) := rfl
@[push_cast] theorem td_10 : td 10 = .one (.str []) := rfl
@[push_cast] theorem td_11 : td 11 = .one (.str []) := rfl
@[push_cast] theorem td_12 : td 12 = .one (.int .u64 0) := rfl
@[push_cast] theorem td_13 : td 13 = .st 2 [(0, 1, false), (1, 1, false)] [.str [], .int .u64 0] := rfl
@[push_cast] theorem td_14 : td 14 = .st 2 [(0, 1, false), (1, 1, false)] [.str [], .int .u64 0] := rfl
@[push_cast] theorem td_15 : td 15 = .one (.val (.pointer none)) := rfl
@[push_cast] theorem td_16 : td 16 = .one (.val (.pointer none)) := rfl
@[push_cast] theorem td_17 : td 17 = .one (.val (.pointer none)) := rfl
@[push_cast] theorem td_18 : td 18 = .st 1 [(0, 1, false)] [.val (.pointer none)] := rfl
@[push_cast] theorem td_19 : td 19 = .st 1 [(0, 1, false)] [.val (.pointer none)] := rfl
@[push_cast] theorem td_21 : td 21 = .one (.int .i32 0) := rfl
@[push_cast] theorem td_22 : td 22 = .sl .int := rfl
@[push_cast] theorem td_28 : td 28 = .st 6 [(0, 1, false), (1, 1, false), (2, 1, false), (3, 1, false), (4, 1, false), (5, 1, false)] [.int .i64 0, .int .i64 0, .int .i64 0, .nilS, .str [], .str []] := rfl
@[push_cast] theorem td_29 : td 29 = .st 6 [(0, 1, false), (1, 1, false), (2, 1, false), (3, 1, false), (4, 1, false), (5, 1, false)] [.int .i64 0, .int .i64 0, .int .i64 0, .nilS, .str [], .str []] := rfl
@[push_cast] theorem td_32 : td 32 = .st 6 [(0, 1, false), (1, 1, false), (2, 1, false), (3, 1, false), (4, 1, false), (5, 1, false)] [.int .i64 0, .int .i64 0, .int .i64 0, .nilS, .str [], .str []] := rfl
@[push_cast] theorem td_44 : td 44 = .sl .str := rfl
@[push_cast] theorem td_50 : td 50 = .sl .u8 := rfl
@[push_cast] theorem td_52 : td 52 = .one (.val (.pointer none)) := rfl
@[push_cast] theorem td_53 : td 53 = .st 2 [(0, 1, false), (1, 1, false)] [.val (.pointer none), .nilS] := rfl
@[push_cast] theorem td_54 : td 54 = .st 2 [(0, 1, false), (1, 1, false)] [.val (.pointer none), .nilS] := rfl
@[push_cast] theorem td_63 : td 63 = .one (.val (.pointer none)) := rfl
@[push_cast] theorem td_65 : td 65 = .one (.int .u64 0) := rfl
@[push_cast] theorem td_76 : td 76 = .one (.int .u32 0) := rfl
@[push_cast] theorem td_78 : td 78 = .one (.int .u64 0) := rfl
@[push_cast] theorem td_83 : td 83 = .st 4 [(0, 1, false), (1, 1, false), (2, 1, false), (3, 1, false)] [.val (.pointer none), .val (.pointer none), .val (.pointer none), .str []] := rfl
@[push_cast] theorem td_84 : td 84 = .st 4 [(0, 1, false), (1, 1, false), (2, 1, false), (3, 1, false)] [.val (.pointer none), .val (.pointer none), .val (.pointer none), .str []] := rfl
@[push_cast] theorem td_89 : td 89 = .one (.int .u8 0) := rfl
@[push_cast] theorem td_90 : td 90 = .one (.int .u8 0) := rfl
@[push_cast] theorem td_92 : td 92 = .one (.int .i32 0) := rfl
@[push_cast] theorem td_93 : td 93 = .one (.int .i32 0) := rfl
@[push_cast] theorem td_94 : td 94 = .st 11 [(0, 1, false), (1, 1, false), (2, 1, false), (3, 1, false), (4, 1, false), (5, 1, false), (6, 1, false), (7, 1, false), (8, 1, false), (9, 1, false), (10, 1, false)] [.int .u64 0, .int .u64 0, .int .u32 0, .int .u8 0, .int .u8 0, .int .u8 0, .int .u8 0, .val .nilFunc, .val (.pointer none), .int .i32 0, .int .i32 0] := rfl
@[push_cast] theorem td_95 : td 95 = .st 11 [(0, 1, false), (1, 1, false), (2, 1, false), (3, 1, false), (4, 1, false), (5, 1, false), (6, 1, false), (7, 1, false), (8, 1, false), (9, 1, false), (10, 1, false)] [.int .u64 0, .int .u64 0, .int .u32 0, .int .u8 0, .int .u8 0, .int .u8 0, .int .u8 0, .val .nilFunc, .val (.pointer none), .int .i32 0, .int .i32 0] := rfl
theorem tdok_2 (E : Env) : TDok P0 E 2 (.one (.int .i64 0)) := ⟨.int .i64, .int .i64 0, by kernel_rfl, by kernel_rfl, rfl, rfl, rfl⟩
theorem tdok_3 (E : Env) : TDok P0 E 3 (.one (.int .i64 0)) := ⟨.int .i64, .int .i64 0, by kernel_rfl, by kernel_rfl, rfl, rfl, rfl⟩
theorem tdok_4 (E : Env) : TDok P0 E 4 (.one (.bool false)) := ⟨.bool, .bool false, by kernel_rfl, by kernel_rfl, rfl, rfl, rfl⟩
theorem tdok_5 (E : Env) : TDok P0 E 5 (.one (.int .u8 0)) := ⟨.int .u8, .int .u8 0, by kernel_rfl, by kernel_rfl, rfl, rfl, rfl⟩
theorem tdok_6 (E : Env) : TDok P0 E 6 (.one (.int .u8 0)) := ⟨.int .u8, .int .u8 0, by kernel_rfl, by kernel_rfl, rfl, rfl, rfl⟩
theorem tdok_7 (E : Env) : TDok P0 E 7 (.st 4 [(0, 1, false), (1, 1, false), (2, 1, false), (3, 1, false)] [.int .i64 0, .int .i64 0, .bool false, .int .u8 0]) := ⟨#[.int .i64 0, .int .i64 0, .bool false, .int .u8 0], by kernel_rfl, by kernel_rfl, rfl, rfl⟩
theorem tdok_8 (E : Env) : TDok P0 E 8 (.st 4 [(0, 1, false), (1, 1, false), (2, 1, false), (3, 1, false)] [.int .i64 0, .int .i64 0, .bool false, .int .u8 0]) := ⟨#[.int .i64 0, .int .i64 0, .bool false, .int .u8 0], by kernel_rfl, by kernel_rfl, rfl, rfl⟩
theorem tdok_9 (E : Env) : TDok P0 E 9 (.one (.str [])) := ⟨.string, .string ⟨#[]⟩, by kernel_rfl, by kernel_rfl, rfl, rfl, rfl⟩
theorem tdok_10 (E : Env) : TDok P0 E 10 (.one (.str [])) := ⟨.string, .string ⟨#[]⟩, by kernel_rfl, by kernel_rfl, rfl, rfl, rfl⟩
theorem tdok_11 (E : Env) : TDok P0 E 11 (.one (.str [])) := ⟨.string, .string ⟨#[]⟩, by kernel_rfl, by kernel_rfl, rfl, rfl, rfl⟩
theorem tdok_12 (E : Env) : TDok P0 E 12 (.one (.int .u64 0)) := ⟨.int .u64, .int .u64 0, by kernel_rfl, by kernel_rfl, rfl, rfl, rfl⟩
theorem tdok_13 (E : Env) : TDok P0 E 13 (.st 2 [(0, 1, false), (1, 1, false)] [.str [], .int .u64 0]) := ⟨#[.string ⟨#[]⟩, .int .u64 0], by kernel_rfl, by kernel_rfl, rfl, rfl⟩
theorem tdok_14 (E : Env) : TDok P0 E 14 (.st 2 [(0, 1, false), (1, 1, false)] [.str [], .int .u64 0]) := ⟨#[.string ⟨#[]⟩, .int .u64 0], by kernel_rfl, by kernel_rfl, rfl, rfl⟩
theorem tdok_15 (E : Env) : TDok P0 E 15 (.one (.val (.pointer none))) := ⟨.pointer 84, .pointer none, by kernel_rfl, by kernel_rfl, rfl, rfl, trivial⟩
theorem tdok_16 (E : Env) : TDok P0 E 16 (.one (.val (.pointer none))) := ⟨.pointer 87, .pointer none, by kernel_rfl, by kernel_rfl, rfl, rfl, trivial⟩
theorem tdok_17 (E : Env) : TDok P0 E 17 (.one (.val (.pointer none))) := ⟨.pointer 95, .pointer none, by kernel_rfl, by kernel_rfl, rfl, rfl, trivial⟩
theorem tdok_18 (E : Env) : TDok P0 E 18 (.st 1 [(0, 1, false)] [.val (.pointer none)]) := ⟨#[.pointer none], by kernel_rfl, by kernel_rfl, rfl, rfl⟩
theorem tdok_19 (E : Env) : TDok P0 E 19 (.st 1 [(0, 1, false)] [.val (.pointer none)]) := ⟨#[.pointer none], by kernel_rfl, by kernel_rfl, rfl, rfl⟩
theorem tdok_21 (E : Env) : TDok P0 E 21 (.one (.int .i32 0)) := ⟨.int .i32, .int .i32 0, by kernel_rfl, by kernel_rfl, rfl, rfl, rfl⟩
theorem tdok_22 (E : Env) : TDok P0 E 22 (.sl .int) := ⟨3, by kernel_rfl, by kernel_rfl, by kernel_rfl, (fun h => by cases h), .int .i64 0, 8, by kernel_rfl, by decide, by decide, rfl⟩
theorem tdok_28 (E : Env) : TDok P0 E 28 (.st 6 [(0, 1, false), (1, 1, false), (2, 1, false), (3, 1, false), (4, 1, false), (5, 1, false)] [.int .i64 0, .int .i64 0, .int .i64 0, .nilS, .str [], .str []]) := ⟨#[.int .i64 0, .int .i64 0, .int .i64 0, .slice none 0 0, .string ⟨#[]⟩, .string ⟨#[]⟩], by kernel_rfl, by kernel_rfl, rfl, rfl⟩
theorem tdok_29 (E : Env) : TDok P0 E 29 (.st 6 [(0, 1, false), (1, 1, false), (2, 1, false), (3, 1, false), (4, 1, false), (5, 1, false)] [.int .i64 0, .int .i64 0, .int .i64 0, .nilS, .str [], .str []]) := ⟨#[.int .i64 0, .int .i64 0, .int .i64 0, .slice none 0 0, .string ⟨#[]⟩, .string ⟨#[]⟩], by kernel_rfl, by kernel_rfl, rfl, rfl⟩
theorem tdok_32 (E : Env) : TDok P0 E 32 (.st 6 [(0, 1, false), (1, 1, false), (2, 1, false), (3, 1, false), (4, 1, false), (5, 1, false)] [.int .i64 0, .int .i64 0, .int .i64 0, .nilS, .str [], .str []]) := ⟨#[.int .i64 0, .int .i64 0, .int .i64 0, .slice none 0 0, .string ⟨#[]⟩, .string ⟨#[]⟩], by kernel_rfl, by kernel_rfl, rfl, rfl⟩
theorem tdok_44 (E : Env) : TDok P0 E 44 (.sl .str) := ⟨9, by kernel_rfl, by kernel_rfl, by kernel_rfl, (fun h => by cases h), .string ⟨#[]⟩, 16, by kernel_rfl, by decide, by decide, rfl⟩
theorem tdok_50 (E : Env) : TDok P0 E 50 (.sl .u8) := ⟨5, by kernel_rfl, by kernel_rfl, by kernel_rfl, (fun _ => by kernel_rfl), .int .u8 0, 1, by kernel_rfl, by decide, by decide, rfl⟩
theorem tdok_52 (E : Env) : TDok P0 E 52 (.one (.val (.pointer none))) := ⟨.pointer 54, .pointer none, by kernel_rfl, by kernel_rfl, rfl, rfl, trivial⟩
theorem tdok_53 (E : Env) : TDok P0 E 53 (.st 2 [(0, 1, false), (1, 1, false)] [.val (.pointer none), .nilS]) := ⟨#[.pointer none, .slice none 0 0], by kernel_rfl, by kernel_rfl, rfl, rfl⟩
theorem tdok_54 (E : Env) : TDok P0 E 54 (.st 2 [(0, 1, false), (1, 1, false)] [.val (.pointer none), .nilS]) := ⟨#[.pointer none, .slice none 0 0], by kernel_rfl, by kernel_rfl, rfl, rfl⟩
theorem tdok_63 (E : Env) : TDok P0 E 63 (.one (.val (.pointer none))) := ⟨.pointer 5, .pointer none, by kernel_rfl, by kernel_rfl, rfl, rfl, trivial⟩
theorem tdok_65 (E : Env) : TDok P0 E 65 (.one (.int .u64 0)) := ⟨.int .u64, .int .u64 0, by kernel_rfl, by kernel_rfl, rfl, rfl, rfl⟩
theorem tdok_76 (E : Env) : TDok P0 E 76 (.one (.int .u32 0)) := ⟨.int .u32, .int .u32 0, by kernel_rfl, by kernel_rfl, rfl, rfl, rfl⟩
theorem tdok_78 (E : Env) : TDok P0 E 78 (.one (.int .u64 0)) := ⟨.int .u64, .int .u64 0, by kernel_rfl, by kernel_rfl, rfl, rfl, rfl⟩
theorem tdok_83 (E : Env) : TDok P0 E 83 (.st 4 [(0, 1, false), (1, 1, false), (2, 1, false), (3, 1, false)] [.val (.pointer none), .val (.pointer none), .val (.pointer none), .str []]) := ⟨#[.pointer none, .pointer none, .pointer none, .string ⟨#[]⟩], by kernel_rfl, by kernel_rfl, rfl, rfl⟩
theorem tdok_84 (E : Env) : TDok P0 E 84 (.st 4 [(0, 1, false), (1, 1, false), (2, 1, false), (3, 1, false)] [.val (.pointer none), .val (.pointer none), .val (.pointer none), .str []]) := ⟨#[.pointer none, .pointer none, .pointer none, .string ⟨#[]⟩], by kernel_rfl, by kernel_rfl, rfl, rfl⟩
theorem tdok_89 (E : Env) : TDok P0 E 89 (.one (.int .u8 0)) := ⟨.int .u8, .int .u8 0, by kernel_rfl, by kernel_rfl, rfl, rfl, rfl⟩
theorem tdok_90 (E : Env) : TDok P0 E 90 (.one (.int .u8 0)) := ⟨.int .u8, .int .u8 0, by kernel_rfl, by kernel_rfl, rfl, rfl, rfl⟩
theorem tdok_92 (E : Env) : TDok P0 E 92 (.one (.int .i32 0)) := ⟨.int .i32, .int .i32 0, by kernel_rfl, by kernel_rfl, rfl, rfl, rfl⟩
theorem tdok_93 (E : Env) : TDok P0 E 93 (.one (.int .i32 0)) := ⟨.int .i32, .int .i32 0, by kernel_rfl, by kernel_rfl, rfl, rfl, rfl⟩
theorem tdok_94 (E : Env) : TDok P0 E 94 (.st 11 [(0, 1, false), (1, 1, false), (2, 1, false), (3, 1, false), (4, 1, false), (5, 1, false), (6, 1, false), (7, 1, false), (8, 1, false), (9, 1, false), (10, 1, false)] [.int .u64 0, .int .u64 0, .int .u32 0, .int .u8 0, .int .u8 0, .int .u8 0, .int .u8 0, .val .nilFunc, .val (.pointer none), .int .i32 0, .int .i32 0]) := ⟨#[.int .u64 0, .int .u64 0, .int .u32 0, .int .u8 0, .int .u8 0, .int .u8 0, .int .u8 0, .nilFunc, .pointer none, .int .i32 0, .int .i32 0], by kernel_rfl, by kernel_rfl, rfl, rfl⟩
theorem tdok_95 (E : Env) : TDok P0 E 95 (.st 11 [(0, 1, false), (1, 1, false), (2, 1, false), (3, 1, false), (4, 1, false), (5, 1, false), (6, 1, false), (7, 1, false), (8, 1, false), (9, 1, false), (10, 1, false)] [.int .u64 0, .int .u64 0, .int .u32 0, .int .u8 0, .int .u8 0, .int .u8 0, .int .u8 0, .val .nilFunc, .val (.pointer none), .int .i32 0, .int .i32 0]) := ⟨#[.int .u64 0, .int .u64 0, .int .u32 0, .int .u8 0, .int .u8 0, .int .u8 0, .int .u8 0, .nilFunc, .pointer none, .int .i32 0, .int .i32 0], by kernel_rfl, by kernel_rfl, rfl, rfl⟩
theorem tdok (E : Env) (t : TypeId) : TDok P0 E t (td t) := by
  unfold td
  split
  · exact tdok_2 E
  · exact tdok_3 E
  · exact tdok_4 E
  · exact tdok_5 E
  · exact tdok_6 E
  · exact tdok_7 E
  · exact tdok_8 E
  · exact tdok_9 E
  · exact tdok_10 E
  · exact tdok_11 E
  · exact tdok_12 E
  · exact tdok_13 E
  · exact tdok_14 E
  · exact tdok_15 E
  · exact tdok_16 E
  · exact tdok_17 E
  · exact tdok_18 E
  · exact tdok_19 E
  · exact tdok_21 E
  · exact tdok_22 E
  · exact tdok_28 E
  · exact tdok_29 E
  · exact tdok_32 E
  · exact tdok_44 E
  · exact tdok_50 E
  · exact tdok_52 E
  · exact tdok_53 E
  · exact tdok_54 E
  · exact tdok_63 E
  · exact tdok_65 E
  · exact tdok_76 E
  · exact tdok_78 E
  · exact tdok_83 E
  · exact tdok_84 E
  · exact tdok_89 E
  · exact tdok_90 E
  · exact tdok_92 E
  · exact tdok_93 E
  · exact tdok_94 E
  · exact tdok_95 E
  · trivial
def ety0 : K → TypeId := fun _ => 0
def mk (l : List (FuncId × Spec)) (d : List (Nat × List Nat × List (List Nat))) : Env := ⟨td, ety0, calOf l, drOf d⟩
theorem mixed : P0.follows .mixedOrders = true := by kernel_rfl
theorem mkOk {l : List (FuncId × Spec)} {d : List (Nat × List Nat × List (List Nat))} (h : Rows P0 ety0 l) : EnvOk P0 (mk l d) := EnvOk.of mixed tdok h _
end Go.Ab
