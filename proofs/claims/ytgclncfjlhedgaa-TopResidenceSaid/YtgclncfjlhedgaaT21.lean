/- Lemmas of a small executor for the model, and contracts of functions, used for the law that this claim proves. No condition. -/
import Derived.Test.YtgclncfjlhedgaaProg
import Derived.Test.YtgclncfjlhedgaaW2
set_option linter.unusedSimpArgs false
set_option linter.unusedVariables false
namespace Go.Vx.L21
open Go Go.Proofs
def tab : Tab := [
  ⟨2, .int .i64, 1, 8, [.int .i64 0], none⟩,
  ⟨3, .int .i64, 1, 8, [.int .i64 0], none⟩,
  ⟨4, .bool, 1, 1, [.bool false], none⟩,
  ⟨5, .int .u8, 1, 1, [.int .u8 0], none⟩,
  ⟨6, .int .u8, 1, 1, [.int .u8 0], none⟩,
  ⟨7, .struct [(0, 1, false), (1, 1, false), (2, 1, false), (3, 1, false)], 4, 24, [.int .i64 0, .int .i64 0, .bool false, .int .u8 0], some [true, true, false, true]⟩,
  ⟨8, .struct [(0, 1, false), (1, 1, false), (2, 1, false), (3, 1, false)], 4, 24, [.int .i64 0, .int .i64 0, .bool false, .int .u8 0], some [true, true, false, true]⟩,
  ⟨12, .int .u64, 1, 8, [.int .u64 0], none⟩,
  ⟨15, .ptr 93, 1, 8, [.pointer none], none⟩,
  ⟨16, .ptr 96, 1, 8, [.pointer none], none⟩,
  ⟨17, .ptr 105, 1, 8, [.pointer none], none⟩,
  ⟨18, .struct [(0, 1, false)], 1, 8, [.pointer none], none⟩,
  ⟨19, .struct [(0, 1, false)], 1, 8, [.pointer none], none⟩,
  ⟨21, .int .i32, 1, 4, [.int .i32 0], none⟩,
  ⟨22, .slice 3, 1, 24, [.slice none 0 0], none⟩,
  ⟨23, .struct [(0, 1, false), (1, 1, false), (2, 1, false), (3, 1, false), (4, 1, false)], 5, 56, [.int .i64 0, .int .i64 0, .int .i64 0, .int .i64 0, .slice none 0 0], none⟩,
  ⟨24, .struct [(0, 1, false), (1, 1, false), (2, 1, false), (3, 1, false), (4, 1, false)], 5, 56, [.int .i64 0, .int .i64 0, .int .i64 0, .int .i64 0, .slice none 0 0], none⟩,
  ⟨26, .slice 28, 1, 24, [.slice none 0 0], none⟩,
  ⟨27, .struct [(0, 1, false), (1, 1, false), (2, 1, false), (3, 1, false)], 4, 32, [.int .i64 0, .int .i64 0, .int .i64 0, .int .i64 0], some [true, true, true, true]⟩,
  ⟨28, .struct [(0, 1, false), (1, 1, false), (2, 1, false), (3, 1, false)], 4, 32, [.int .i64 0, .int .i64 0, .int .i64 0, .int .i64 0], some [true, true, true, true]⟩,
  ⟨29, .int .u64, 1, 8, [.int .u64 0], none⟩,
  ⟨30, .struct [(0, 1, false), (1, 1, false)], 2, 16, [.int .i64 0, .int .i64 0], some [true, true]⟩,
  ⟨31, .struct [(0, 1, false), (1, 1, false)], 2, 16, [.int .i64 0, .int .i64 0], some [true, true]⟩,
  ⟨32, .struct [(0, 1, false), (1, 1, false), (2, 1, false), (3, 1, false), (4, 1, false), (5, 1, false), (6, 1, false), (7, 1, false), (8, 1, false)], 9, 72, [.int .i64 0, .int .i64 0, .int .i64 0, .int .i64 0, .int .i64 0, .int .i64 0, .int .u64 0, .int .i64 0, .int .i64 0], some [true, true, true, true, true, true, true, true, true]⟩,
  ⟨33, .struct [(0, 1, false), (1, 1, false), (2, 1, false), (3, 1, false), (4, 1, false), (5, 1, false), (6, 1, false), (7, 1, false), (8, 1, false)], 9, 72, [.int .i64 0, .int .i64 0, .int .i64 0, .int .i64 0, .int .i64 0, .int .i64 0, .int .u64 0, .int .i64 0, .int .i64 0], some [true, true, true, true, true, true, true, true, true]⟩,
  ⟨34, .struct [(0, 1, false), (1, 1, false), (2, 1, false), (3, 1, false), (4, 1, false), (5, 1, false), (6, 1, false), (7, 1, false), (8, 2, true), (10, 1, false), (11, 1, false), (12, 9, true)], 21, 168, [.int .i64 0, .int .i64 0, .int .i64 0, .int .i64 0, .int .u64 0, .int .i64 0, .int .i64 0, .int .i64 0, .int .i64 0, .int .i64 0, .int .u64 0, .int .i64 0, .int .i64 0, .int .i64 0, .int .i64 0, .int .i64 0, .int .i64 0, .int .i64 0, .int .u64 0, .int .i64 0, .int .i64 0], none⟩,
  ⟨35, .struct [(0, 1, false), (1, 1, false), (2, 1, false), (3, 1, false), (4, 1, false), (5, 1, false), (6, 1, false), (7, 1, false), (8, 2, true), (10, 1, false), (11, 1, false), (12, 9, true)], 21, 168, [.int .i64 0, .int .i64 0, .int .i64 0, .int .i64 0, .int .u64 0, .int .i64 0, .int .i64 0, .int .i64 0, .int .i64 0, .int .i64 0, .int .u64 0, .int .i64 0, .int .i64 0, .int .i64 0, .int .i64 0, .int .i64 0, .int .i64 0, .int .i64 0, .int .u64 0, .int .i64 0, .int .i64 0], none⟩,
  ⟨36, .int .i64, 1, 8, [.int .i64 0], none⟩,
  ⟨40, .ptr 59, 1, 8, [.pointer none], none⟩,
  ⟨47, .int .u64, 1, 8, [.int .u64 0], none⟩,
  ⟨54, .struct [(0, 1, false), (1, 1, false), (2, 1, false), (3, 1, false), (4, 1, false)], 5, 40, [.int .u64 0, .int .i64 0, .int .i64 0, .int .i64 0, .int .i64 0], some [true, true, true, true, true]⟩,
  ⟨55, .struct [(0, 1, false), (1, 1, false), (2, 1, false), (3, 1, false), (4, 1, false)], 5, 40, [.int .u64 0, .int .i64 0, .int .i64 0, .int .i64 0, .int .i64 0], some [true, true, true, true, true]⟩,
  ⟨56, .struct [(0, 1, false), (1, 1, false), (2, 1, false)], 3, 24, [.int .i64 0, .int .i64 0, .int .i64 0], some [true, true, true]⟩,
  ⟨57, .struct [(0, 1, false), (1, 1, false), (2, 1, false)], 3, 24, [.int .i64 0, .int .i64 0, .int .i64 0], some [true, true, true]⟩,
  ⟨58, .struct [(0, 1, false), (1, 1, false), (2, 5, true), (7, 1, false), (8, 3, true), (11, 1, false), (12, 1, false), (13, 1, false), (14, 1, false), (15, 1, false)], 16, 128, [.int .i64 0, .bool false, .int .u64 0, .int .i64 0, .int .i64 0, .int .i64 0, .int .i64 0, .bool false, .int .i64 0, .int .i64 0, .int .i64 0, .bool false, .int .i64 0, .int .i64 0, .bool false, .int .i64 0], none⟩,
  ⟨59, .struct [(0, 1, false), (1, 1, false), (2, 5, true), (7, 1, false), (8, 3, true), (11, 1, false), (12, 1, false), (13, 1, false), (14, 1, false), (15, 1, false)], 16, 128, [.int .i64 0, .bool false, .int .u64 0, .int .i64 0, .int .i64 0, .int .i64 0, .int .i64 0, .bool false, .int .i64 0, .int .i64 0, .int .i64 0, .bool false, .int .i64 0, .int .i64 0, .bool false, .int .i64 0], none⟩,
  ⟨83, .map 3 3, 1, 8, [.map none], none⟩,
  ⟨84, .struct [(0, 1, false), (1, 1, false), (2, 1, false)], 3, 24, [.int .i64 0, .int .i64 0, .int .i64 0], some [true, true, true]⟩,
  ⟨85, .struct [(0, 1, false), (1, 1, false), (2, 1, false)], 3, 24, [.int .i64 0, .int .i64 0, .int .i64 0], some [true, true, true]⟩,
  ⟨86, .slice 85, 1, 24, [.slice none 0 0], none⟩]
theorem tabOK : TabOK Try.prog tab := ⟨show List.map (fun d => tkOf Try.prog d.t) tab = List.map some tab from by kernel_rfl, by kernel_rfl⟩
end Go.Vx.L21
