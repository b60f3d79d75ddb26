/- Lemmas of a small executor for the model, and contracts of functions, used for the law that this claim proves. No condition. -/
import Derived.Test.YtpohlkhnilcfnaaProg
import Derived.Test.YtpohlkhnilcfnaaFW2
set_option linter.unusedSimpArgs false
set_option linter.unusedVariables false
namespace Go.Vx.I23
open Go Go.Proofs
def tab : Tab := [
  ⟨3, .int .i64, 1, 8, [.int .i64 0], none⟩,
  ⟨4, .bool, 1, 1, [.bool false], none⟩,
  ⟨22, .slice 31, 1, 24, [.slice none 0 0], none⟩,
  ⟨25, .slice 3, 1, 24, [.slice none 0 0], none⟩,
  ⟨31, .struct [(0, 1, false), (1, 1, false)], 2, 16, [.int .i64 0, .int .i64 0], some [true, true]⟩,
  ⟨38, .int .i64, 1, 8, [.int .i64 0], none⟩,
  ⟨44, .slice 53, 1, 24, [.slice none 0 0], none⟩,
  ⟨53, .struct [(0, 1, false), (1, 1, false), (2, 1, false), (3, 1, false), (4, 1, false)], 5, 40, [.int .i64 0, .int .i64 0, .int .i64 0, .int .i64 0, .int .i64 0], some [true, true, true, true, true]⟩,
  ⟨75, .map 3 4, 1, 8, [.map none], none⟩,
  ⟨21, .int .i32, 1, 4, [.int .i32 0], none⟩,
  ⟨65, .slice 67, 1, 24, [.slice none 0 0], none⟩,
  ⟨55, .int .i16, 1, 2, [.int .i16 0], none⟩,
  ⟨59, .slice 83, 1, 24, [.slice none 0 0], none⟩,
  ⟨64, .slice 21, 1, 24, [.slice none 0 0], none⟩,
  ⟨67, .int .u16, 1, 2, [.int .u16 0], none⟩,
  ⟨81, .int .u32, 1, 4, [.int .u32 0], none⟩,
  ⟨83, .struct [(0, 1, false), (1, 1, false)], 2, 8, [.int .u32 0, .int .u32 0], some [true, true]⟩]
theorem tabOK : TabOK Try.prog tab := ⟨show List.map (fun d => tkOf Try.prog d.t) tab = List.map some tab from by kernel_rfl, by kernel_rfl⟩

end Go.Vx.I23
