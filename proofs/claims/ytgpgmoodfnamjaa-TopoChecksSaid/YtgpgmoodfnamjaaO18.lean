/- The law TopoChecks returns true for every input and leaves its argument as it was. No condition. -/
import Derived.Test.YtgpgmoodfnamjaaN18
set_option linter.unusedSimpArgs false
set_option linter.unusedVariables false
set_option maxRecDepth 100000
namespace Go.Vx.L18
open Go Go.Proofs Go.Proofs.Ytgpgmoodfnamjaa
open Go.ChangeShapes Go.WideShapes Go.RowKit Go.Deep
theorem lifted3 (os : Os) (started : os.Started) (H : Type) (enc : TypeId × Value → H) :
    ReturnsInHanded {} Try.checked os 3 .any (Rows.topoChecksSpec.pre6 enc Try.prog Try.f3 Rows.topoChecksRow.domain false) (Rows.topoChecksSpec.post enc Try.prog Try.f3 false true false false) := by
  refine law_lift (C := Try.checked) own started (by kernel_rfl) Try.func3
    (ChangeSpec.witness6 (enc := enc) (C := Try.checked) false ⟨#[], #[.agg #[.int .i64 0, .slice none 0 0]], []⟩ 8 (by kernel_rfl) (by kernel_rfl) (by kernel_rfl) (by kernel_rfl)) laid (by kernel_rfl) (tb := 4) (by kernel_rfl) Try.underlying4 rfl ?_ ?_
  · intro ds hds
    rw [Try.params3] at hds
    match ds, hds with
    | [d0], _ => rfl
  · intro W args ds p hA hval _
    rw [Try.params3] at hA hval
    obtain ⟨v0, d0, rfl, rfl, h0⟩ := trodAll_one hA
    obtain ⟨b0, hv0⟩ := hval 0 24 v0 rfl rfl
    obtain ⟨x0_0, x0_1, x0_2, x0_3, x0_4, q0⟩ := opa_graph hv0 h0
    exact calls_of_opa q0 (topoChecks x0_0 x0_1 x0_2 x0_3)
end Go.Vx.L18
namespace Go.Proofs.Ytgpgmoodfnamjaa
open Go.Vx.L18
theorem topoChecks_holds : Rows.TopoChecksSaid :=
  OpenClaim.holds_of_wide 3 Try.f3 rfl rfl rfl rfl rfl rfl rfl ⟨rfl, rfl, rfl, rfl, rfl⟩ rfl rfl rfl rfl rfl (by kernel_rfl) Try.func3 (by kernel_rfl)
    (of_decide_eq_true (by kernel_rfl)) (by unfold Func.isWrapper; first | (rw [if_pos (by decide +kernel)]; kernel_rfl) | (rw [if_neg (by decide +kernel)]; exact ⟨rfl, rfl⟩))
    (fun os started H enc _ => lifted3 os started H enc)
end Go.Proofs.Ytgpgmoodfnamjaa
