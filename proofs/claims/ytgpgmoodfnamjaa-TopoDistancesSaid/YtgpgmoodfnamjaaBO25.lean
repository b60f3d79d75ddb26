/- The law TopoDistances returns true for every input and leaves its arguments as they were. No condition. -/
import Derived.Test.YtgpgmoodfnamjaaBN18
import Derived.Test.YtgpgmoodfnamjaaBB24
set_option linter.unusedSimpArgs false
set_option linter.unusedVariables false
set_option maxRecDepth 100000
namespace Go.Vx.L18
open Go Go.Proofs Go.Proofs.Ytgpgmoodfnamjaa
open Go.ChangeShapes Go.WideShapes Go.RowKit Go.Deep
theorem lifted7 (os : Os) (started : os.Started) (H : Type) (enc : TypeId × Value → H) :
    ReturnsInHanded {} Try.checked os 7 .any (Rows.topoDistancesSpec.pre6 enc Try.prog Try.f7 Rows.topoDistancesRow.domain false) (Rows.topoDistancesSpec.post enc Try.prog Try.f7 false true false false) := by
  refine law_lift (C := Try.checked) own started (by kernel_rfl) Try.func7
    (ChangeSpec.witness6 (enc := enc) (C := Try.checked) false ⟨#[], #[.agg #[.int .i64 0, .slice none 0 0]], []⟩ 8 (by kernel_rfl) (by kernel_rfl) (by kernel_rfl) (by kernel_rfl)) laid (by kernel_rfl) (tb := 4) (by kernel_rfl) Try.underlying4 rfl ?_ ?_
  · intro ds hds
    rw [Try.params7] at hds
    match ds, hds with
    | [d0], _ => rfl
  · intro W args ds p hA hval _
    rw [Try.params7] at hA hval
    obtain ⟨v0, d0, rfl, rfl, h0⟩ := trodAll_one hA
    obtain ⟨b0, hv0⟩ := hval 0 24 v0 rfl rfl
    obtain ⟨x0_0, x0_1, x0_2, x0_3, x0_4, q0⟩ := opa_graph hv0 h0
    exact calls_of_opa q0 (topoDistances x0_0 x0_1 x0_2 x0_3)
end Go.Vx.L18
namespace Go.Proofs.Ytgpgmoodfnamjaa
open Go.Vx.L18
theorem topoDistances_holds : Rows.TopoDistancesSaid :=
  OpenClaim.holds_of_wide 7 Try.f7 rfl rfl rfl rfl rfl rfl rfl ⟨rfl, rfl, rfl, rfl, rfl⟩ rfl rfl rfl rfl rfl (by kernel_rfl) Try.func7 (by kernel_rfl)
    (of_decide_eq_true (by kernel_rfl)) (by unfold Func.isWrapper; first | (rw [if_pos (by decide +kernel)]; kernel_rfl) | (rw [if_neg (by decide +kernel)]; exact ⟨rfl, rfl⟩))
    (fun os started H enc _ => lifted7 os started H enc)
end Go.Proofs.Ytgpgmoodfnamjaa
