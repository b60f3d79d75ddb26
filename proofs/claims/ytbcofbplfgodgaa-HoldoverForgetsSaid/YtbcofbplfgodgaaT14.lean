/- Lemmas of a small executor for the model, and contracts of functions, used for the law that this claim proves. No condition. -/
import Derived.Test.YtbcofbplfgodgaaProg
import Derived.Test.YtbcofbplfgodgaaW2
set_option linter.unusedSimpArgs false
set_option linter.unusedVariables false
namespace Go.Vx.L14
open Go Go.Proofs
def tab : Tab := [
  ⟨3, .int .i64, 1, 8, [.int .i64 0], none⟩,
  ⟨4, .bool, 1, 1, [.bool false], none⟩,
  ⟨5, .int .u8, 1, 1, [.int .u8 0], none⟩,
  ⟨23, .struct [(0, 1, false), (1, 1, false), (2, 1, false), (3, 1, false)], 4, 32, [.int .i64 0, .int .i64 0, .int .i64 0, .int .i64 0], some [true, true, true, true]⟩,
  ⟨24, .int .i64, 1, 8, [.int .i64 0], none⟩,
  ⟨26, .ptr 52, 1, 8, [.pointer none], none⟩,
  ⟨28, .ptr 54, 1, 8, [.pointer none], none⟩,
  ⟨32, .slice 41, 1, 24, [.slice none 0 0], none⟩,
  ⟨41, .struct [(0, 1, false), (1, 1, false), (2, 1, false)], 3, 24, [.int .u8 0, .int .i64 0, .int .i64 0], some [true, true, true]⟩,
  ⟨45, .slice 3, 1, 24, [.slice none 0 0], none⟩,
  ⟨52, .struct [(0, 4, true), (4, 1, false), (5, 1, false), (6, 1, false), (7, 1, false)], 8, 80, [.int .i64 0, .int .i64 0, .int .i64 0, .int .i64 0, .slice none 0 0, .bool false, .int .i64 0, .bool false], none⟩,
  ⟨54, .struct [(0, 4, true), (4, 1, false), (5, 1, false), (6, 1, false), (7, 1, false)], 8, 72, [.int .i64 0, .int .i64 0, .int .i64 0, .int .i64 0, .slice none 0 0, .int .i64 0, .bool false, .bool false], none⟩,
  ⟨60, .int .u64, 1, 8, [.int .u64 0], none⟩,
  ⟨61, .int .u64, 1, 8, [.int .u64 0], none⟩]
theorem tabOK : TabOK Try.prog tab := ⟨show List.map (fun d => tkOf Try.prog d.t) tab = List.map some tab from by kernel_rfl, by kernel_rfl⟩

end Go.Vx.L14
