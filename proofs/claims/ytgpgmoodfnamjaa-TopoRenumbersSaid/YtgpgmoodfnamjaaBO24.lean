/- The law TopoRenumbers returns true for every input and leaves its arguments as they were. No condition. -/
import Derived.Test.YtgpgmoodfnamjaaBN20
set_option linter.unusedSimpArgs false
set_option linter.unusedVariables false
set_option maxRecDepth 100000
namespace Go.Vx.L18
open Go Go.Proofs Go.Proofs.Ytgpgmoodfnamjaa
open Go.ChangeShapes Go.WideShapes Go.RowKit Go.Deep
theorem lifted6 (os : Os) (started : os.Started) (H : Type) (enc : TypeId × Value → H) :
    ReturnsInHanded {} Try.checked os 6 .any (Rows.topoRenumbersSpec.pre6 enc Try.prog Try.f6 Rows.topoRenumbersRow.domain false) (Rows.topoRenumbersSpec.post enc Try.prog Try.f6 false true false false) := by
  refine law_lift (C := Try.checked) own started (by kernel_rfl) Try.func6
    (ChangeSpec.witness6 (enc := enc) (C := Try.checked) false ⟨#[], #[.agg #[.int .i64 0, .slice none 0 0], .int .u8 0], []⟩ 8 (by kernel_rfl) (by kernel_rfl) (by kernel_rfl) (by kernel_rfl)) laid (by kernel_rfl) (tb := 4) (by kernel_rfl) Try.underlying4 rfl ?_ ?_
  · intro ds hds
    rw [Try.params6] at hds
    match ds, hds with
    | [d0, d1], _ => rfl
  · intro W args ds p hA hval _
    rw [Try.params6] at hA hval
    obtain ⟨v0, v1, d0, d1, p0, p1, rfl, rfl, rfl, h0, h1⟩ := trodAll_two hA
    obtain ⟨b0, hv0⟩ := hval 0 24 v0 rfl rfl
    obtain ⟨x0_0, x0_1, x0_2, x0_3, x0_4, q0⟩ := opa_graph hv0 h0
    obtain ⟨b1, hv1⟩ := hval 1 5 v1 rfl rfl
    obtain ⟨n1, rfl, rfl, _, w1⟩ := open_int Try.underlying5 hv1 h1
    exact calls_of_opa (q0.app (opa_int (k := .u8) (z := n1))) (topoRenumbersZ x0_0 x0_1 x0_2 x0_3 n1 w1)
end Go.Vx.L18
namespace Go.Proofs.Ytgpgmoodfnamjaa
open Go.Vx.L18
theorem topoRenumbers_holds : Rows.TopoRenumbersSaid :=
  OpenClaim.holds_of_wide 6 Try.f6 rfl rfl rfl rfl rfl rfl rfl ⟨rfl, rfl, rfl, rfl, rfl⟩ rfl rfl rfl rfl rfl (by kernel_rfl) Try.func6 (by kernel_rfl)
    (of_decide_eq_true (by kernel_rfl)) (by unfold Func.isWrapper; first | (rw [if_pos (by decide +kernel)]; kernel_rfl) | (rw [if_neg (by decide +kernel)]; exact ⟨rfl, rfl⟩))
    (fun os started H enc _ => lifted6 os started H enc)
end Go.Proofs.Ytgpgmoodfnamjaa
