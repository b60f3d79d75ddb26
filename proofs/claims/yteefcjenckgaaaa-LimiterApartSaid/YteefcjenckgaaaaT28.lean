/- Lemmas of a small executor for the model, and contracts of functions, used for the law that this claim proves. No condition. -/
import Derived.Test.YteefcjenckgaaaaProg
import Derived.Test.YteefcjenckgaaaaSk1
set_option linter.unusedSimpArgs false
set_option linter.unusedVariables false
namespace Go.Vx.L28
open Go Go.Proofs
def tab : Tab := [
  ⟨3, .int .i64, 1, 8, [.int .i64 0], none⟩,
  ⟨4, .bool, 1, 1, [.bool false], none⟩,
  ⟨23, .struct [(0, 1, false), (1, 1, false), (2, 1, false), (3, 1, false), (4, 1, false)], 5, 40, [.int .i64 0, .int .i64 0, .int .i64 0, .int .i64 0, .int .i64 0], some [true, true, true, true, true]⟩,
  ⟨24, .int .i64, 1, 8, [.int .i64 0], none⟩,
  ⟨26, .ptr 49, 1, 8, [.pointer none], none⟩,
  ⟨49, .struct [(0, 5, true), (5, 1, false), (6, 1, false)], 7, 56, [.int .i64 0, .int .i64 0, .int .i64 0, .int .i64 0, .int .i64 0, .int .i64 0, .map none], none⟩,
  ⟨47, .map 3 54, 1, 8, [.map none], none⟩,
  ⟨54, .struct [(0, 1, false), (1, 1, false), (2, 1, false), (3, 1, false)], 4, 32, [.int .i64 0, .int .i64 0, .bool false, .int .i64 0], some [true, true, false, true]⟩,
  ⟨31, .ptr 52, 1, 8, [.pointer none], none⟩,
  ⟨52, .struct [(0, 5, true), (5, 1, false), (6, 1, false)], 7, 72, [.int .i64 0, .int .i64 0, .int .i64 0, .int .i64 0, .int .i64 0, .slice none 0 0, .int .i64 0], none⟩,
  ⟨50, .slice 62, 1, 24, [.slice none 0 0], none⟩,
  ⟨62, .struct [(0, 1, false), (1, 1, false), (2, 1, false), (3, 1, false), (4, 1, false)], 5, 40, [.int .i64 0, .int .i64 0, .int .i64 0, .bool false, .int .i64 0], some [true, true, true, false, true]⟩,
  ⟨40, .slice 3, 1, 24, [.slice none 0 0], none⟩,
  ⟨58, .ptr 54, 1, 8, [.pointer none], none⟩,
  ⟨30, .slice 36, 1, 24, [.slice none 0 0], none⟩,
  ⟨36, .struct [(0, 1, false), (1, 1, false)], 2, 16, [.int .i64 0, .int .i64 0], some [true, true]⟩]
theorem tabOK : TabOK Try.prog tab := ⟨show List.map (fun d => tkOf Try.prog d.t) tab = List.map some tab from by kernel_rfl, by kernel_rfl⟩

end Go.Vx.L28
