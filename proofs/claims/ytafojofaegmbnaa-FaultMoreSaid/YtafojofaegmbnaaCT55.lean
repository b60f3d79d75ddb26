/- Lemmas of a small executor for the model, and contracts of functions, used for the law that this claim proves. No condition. -/
import Derived.Test.YtafojofaegmbnaaProg
import Derived.Test.YtafojofaegmbnaaCW3
set_option linter.unusedSimpArgs false
set_option linter.unusedVariables false
namespace Go.Vx.L55
open Go Go.Proofs
def tab : Tab := [
  ⟨1, .other, 1, 8, [.nilFunc], none⟩,
  ⟨2, .int .i64, 1, 8, [.int .i64 0], none⟩,
  ⟨3, .int .i64, 1, 8, [.int .i64 0], none⟩,
  ⟨4, .bool, 1, 1, [.bool false], none⟩,
  ⟨5, .int .u8, 1, 1, [.int .u8 0], none⟩,
  ⟨6, .int .u8, 1, 1, [.int .u8 0], none⟩,
  ⟨7, .struct [(0, 1, false), (1, 1, false), (2, 1, false), (3, 1, false)], 4, 24, [.int .i64 0, .int .i64 0, .bool false, .int .u8 0], some [true, true, false, true]⟩,
  ⟨8, .struct [(0, 1, false), (1, 1, false), (2, 1, false), (3, 1, false)], 4, 24, [.int .i64 0, .int .i64 0, .bool false, .int .u8 0], some [true, true, false, true]⟩,
  ⟨12, .int .u64, 1, 8, [.int .u64 0], none⟩,
  ⟨15, .ptr 129, 1, 8, [.pointer none], none⟩,
  ⟨16, .ptr 132, 1, 8, [.pointer none], none⟩,
  ⟨17, .ptr 141, 1, 8, [.pointer none], none⟩,
  ⟨18, .struct [(0, 1, false)], 1, 8, [.pointer none], none⟩,
  ⟨19, .struct [(0, 1, false)], 1, 8, [.pointer none], none⟩,
  ⟨21, .int .i32, 1, 4, [.int .i32 0], none⟩,
  ⟨22, .slice 46, 1, 24, [.slice none 0 0], none⟩,
  ⟨23, .other, 1, 8, [.nilFunc], none⟩,
  ⟨24, .other, 1, 8, [.nilFunc], none⟩,
  ⟨25, .int .i64, 1, 8, [.int .i64 0], none⟩,
  ⟨26, .other, 1, 8, [.nilFunc], none⟩,
  ⟨28, .slice 3, 1, 24, [.slice none 0 0], none⟩,
  ⟨30, .int .u32, 1, 4, [.int .u32 0], none⟩,
  ⟨31, .int .u64, 1, 8, [.int .u64 0], none⟩,
  ⟨32, .struct [(0, 1, false), (1, 1, false), (2, 1, false), (3, 1, false), (4, 1, false), (5, 1, false), (6, 1, false), (7, 1, false), (8, 1, false), (9, 1, false), (10, 1, false), (11, 1, false), (12, 1, false)], 13, 96, [.int .i64 0, .int .i64 0, .int .i64 0, .int .i64 0, .int .i64 0, .int .i64 0, .int .u32 0, .int .u32 0, .int .u32 0, .int .u64 0, .int .u64 0, .int .u64 0, .int .u64 0], some [true, true, true, true, true, true, true, true, true, true, true, true, true]⟩,
  ⟨33, .struct [(0, 1, false), (1, 1, false), (2, 1, false), (3, 1, false), (4, 1, false), (5, 1, false), (6, 1, false), (7, 1, false), (8, 1, false), (9, 1, false), (10, 1, false), (11, 1, false), (12, 1, false)], 13, 96, [.int .i64 0, .int .i64 0, .int .i64 0, .int .i64 0, .int .i64 0, .int .i64 0, .int .u32 0, .int .u32 0, .int .u32 0, .int .u64 0, .int .u64 0, .int .u64 0, .int .u64 0], some [true, true, true, true, true, true, true, true, true, true, true, true, true]⟩,
  ⟨34, .struct [(0, 1, false), (1, 1, false)], 2, 16, [.int .i64 0, .int .i64 0], some [true, true]⟩,
  ⟨35, .struct [(0, 1, false), (1, 1, false)], 2, 16, [.int .i64 0, .int .i64 0], some [true, true]⟩,
  ⟨37, .struct [(0, 1, false), (1, 13, true), (14, 2, true), (16, 1, false)], 17, 128, [.bool false, .int .i64 0, .int .i64 0, .int .i64 0, .int .i64 0, .int .i64 0, .int .i64 0, .int .u32 0, .int .u32 0, .int .u32 0, .int .u64 0, .int .u64 0, .int .u64 0, .int .u64 0, .int .i64 0, .int .i64 0, .int .i64 0], some [false, true, true, true, true, true, true, true, true, true, true, true, true, true, true, true, true]⟩,
  ⟨38, .struct [(0, 1, false), (1, 13, true), (14, 2, true), (16, 1, false)], 17, 128, [.bool false, .int .i64 0, .int .i64 0, .int .i64 0, .int .i64 0, .int .i64 0, .int .i64 0, .int .u32 0, .int .u32 0, .int .u32 0, .int .u64 0, .int .u64 0, .int .u64 0, .int .u64 0, .int .i64 0, .int .i64 0, .int .i64 0], some [false, true, true, true, true, true, true, true, true, true, true, true, true, true, true, true, true]⟩,
  ⟨41, .slice 28, 1, 24, [.slice none 0 0], none⟩,
  ⟨45, .struct [(0, 1, false), (1, 1, false), (2, 1, false), (3, 1, false), (4, 1, false)], 5, 40, [.int .i64 0, .int .i64 0, .int .i64 0, .int .i64 0, .int .i64 0], some [true, true, true, true, true]⟩,
  ⟨46, .struct [(0, 1, false), (1, 1, false), (2, 1, false), (3, 1, false), (4, 1, false)], 5, 40, [.int .i64 0, .int .i64 0, .int .i64 0, .int .i64 0, .int .i64 0], some [true, true, true, true, true]⟩,
  ⟨47, .int .u16, 1, 2, [.int .u16 0], none⟩,
  ⟨58, .other, 1, 8, [.nilFunc], none⟩,
  ⟨60, .map 3 35, 1, 8, [.map none], none⟩,
  ⟨68, .ptr 38, 1, 8, [.pointer none], none⟩,
  ⟨70, .array 24 4, 24, 24, [.bool false, .bool false, .bool false, .bool false, .bool false, .bool false, .bool false, .bool false, .bool false, .bool false, .bool false, .bool false, .bool false, .bool false, .bool false, .bool false, .bool false, .bool false, .bool false, .bool false, .bool false, .bool false, .bool false, .bool false], none⟩,
  ⟨72, .slice 4, 1, 24, [.slice none 0 0], none⟩,
  ⟨76, .int .u64, 1, 8, [.int .u64 0], none⟩,
  ⟨98, .int .i64, 1, 8, [.int .i64 0], none⟩,
  ⟨110, .slice 5, 1, 24, [.slice none 0 0], none⟩,
  ⟨113, .int .u64, 1, 8, [.int .u64 0], none⟩,
  ⟨117, .ptr 3, 1, 8, [.pointer none], none⟩,
  ⟨122, .ptr 113, 1, 8, [.pointer none], none⟩,
  ⟨134, .int .u8, 1, 1, [.int .u8 0], none⟩,
  ⟨135, .int .u8, 1, 1, [.int .u8 0], none⟩,
  ⟨137, .ptr 5, 1, 8, [.pointer none], none⟩,
  ⟨138, .int .i32, 1, 4, [.int .i32 0], none⟩,
  ⟨139, .int .i32, 1, 4, [.int .i32 0], none⟩]
theorem tabOK : TabOK Try.prog tab := ⟨show List.map (fun d => tkOf Try.prog d.t) tab = List.map some tab from by kernel_rfl, by kernel_rfl⟩
end Go.Vx.L55
