/- Lemmas of a small executor for the model, and contracts of functions, used for the law that this claim proves. No condition. -/
import Derived.Test.YtgpgmoodfnamjaaProg
import Derived.Test.YtgpgmoodfnamjaaBW3
set_option linter.unusedSimpArgs false
set_option linter.unusedVariables false
namespace Go.Vx.L18
open Go Go.Proofs
def tab : Tab := [
  ⟨2, .int .i64, 1, 8, [.int .i64 0], none⟩,
  ⟨3, .int .i64, 1, 8, [.int .i64 0], none⟩,
  ⟨4, .bool, 1, 1, [.bool false], none⟩,
  ⟨5, .int .u8, 1, 1, [.int .u8 0], none⟩,
  ⟨6, .int .u8, 1, 1, [.int .u8 0], none⟩,
  ⟨7, .struct [(0, 1, false), (1, 1, false), (2, 1, false), (3, 1, false)], 4, 24, [.int .i64 0, .int .i64 0, .bool false, .int .u8 0], some [true, true, false, true]⟩,
  ⟨8, .struct [(0, 1, false), (1, 1, false), (2, 1, false), (3, 1, false)], 4, 24, [.int .i64 0, .int .i64 0, .bool false, .int .u8 0], some [true, true, false, true]⟩,
  ⟨12, .int .u64, 1, 8, [.int .u64 0], none⟩,
  ⟨15, .ptr 103, 1, 8, [.pointer none], none⟩,
  ⟨16, .ptr 106, 1, 8, [.pointer none], none⟩,
  ⟨17, .ptr 115, 1, 8, [.pointer none], none⟩,
  ⟨18, .struct [(0, 1, false)], 1, 8, [.pointer none], none⟩,
  ⟨19, .struct [(0, 1, false)], 1, 8, [.pointer none], none⟩,
  ⟨21, .int .i32, 1, 4, [.int .i32 0], none⟩,
  ⟨22, .slice 37, 1, 24, [.slice none 0 0], none⟩,
  ⟨23, .struct [(0, 1, false), (1, 1, false)], 2, 32, [.int .i64 0, .slice none 0 0], none⟩,
  ⟨24, .struct [(0, 1, false), (1, 1, false)], 2, 32, [.int .i64 0, .slice none 0 0], none⟩,
  ⟨27, .int .i64, 1, 8, [.int .i64 0], none⟩,
  ⟨30, .slice 3, 1, 24, [.slice none 0 0], none⟩,
  ⟨36, .struct [(0, 1, false), (1, 1, false), (2, 1, false), (3, 1, false)], 4, 32, [.int .i64 0, .int .i64 0, .int .i64 0, .int .i64 0], some [true, true, true, true]⟩,
  ⟨37, .struct [(0, 1, false), (1, 1, false), (2, 1, false), (3, 1, false)], 4, 32, [.int .i64 0, .int .i64 0, .int .i64 0, .int .i64 0], some [true, true, true, true]⟩,
  ⟨41, .slice 30, 1, 24, [.slice none 0 0], none⟩,
  ⟨45, .slice 4, 1, 24, [.slice none 0 0], none⟩,
  ⟨52, .map 53 4, 1, 8, [.map none], none⟩,
  ⟨53, .array 2 3, 2, 16, [.int .i64 0, .int .i64 0], none⟩,
  ⟨57, .other, 1, 8, [.nilFunc], none⟩,
  ⟨59, .other, 1, 8, [.nilFunc], none⟩,
  ⟨61, .map 3 4, 1, 8, [.map none], none⟩,
  ⟨72, .int .u64, 1, 8, [.int .u64 0], none⟩,
  ⟨77, .int .i64, 1, 8, [.int .i64 0], none⟩,
  ⟨85, .int .u32, 1, 4, [.int .u32 0], none⟩,
  ⟨87, .int .u64, 1, 8, [.int .u64 0], none⟩,
  ⟨92, .int .u64, 1, 8, [.int .u64 0], none⟩,
  ⟨96, .ptr 3, 1, 8, [.pointer none], none⟩,
  ⟨98, .ptr 92, 1, 8, [.pointer none], none⟩]
theorem tabOK : TabOK Try.prog tab := ⟨show List.map (fun d => tkOf Try.prog d.t) tab = List.map some tab from by kernel_rfl, by kernel_rfl⟩
end Go.Vx.L18
