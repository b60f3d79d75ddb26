/- The law FaultChecks returns true for every input and leaves its argument as it was. No condition. -/
import Derived.Test.YtafojofaegmbnaaN55
set_option linter.unusedSimpArgs false
set_option linter.unusedVariables false
set_option maxRecDepth 100000
namespace Go.Vx.L55
open Go Go.Proofs Go.Proofs.Ytafojofaegmbnaa
open Go.ChangeShapes Go.WideShapes Go.RowKit Go.Deep
theorem lifted3 (os : Os) (started : os.Started) (H : Type) (enc : TypeId × Value → H) :
    ReturnsInHanded {} Try.checked os 3 .any (Rows.faultChecksSpec.pre6 enc Try.prog Try.f3 Rows.faultChecksRow.domain false) (Rows.faultChecksSpec.post enc Try.prog Try.f3 false true false false) := by
  refine law_lift (C := Try.checked) own started (by kernel_rfl) Try.func3
    (ChangeSpec.witness6 (enc := enc) (C := Try.checked) false ⟨#[], #[.slice none 0 0], []⟩ 8 (by kernel_rfl) (by kernel_rfl) (by kernel_rfl) (by kernel_rfl)) laid (by kernel_rfl) (tb := 4) (by kernel_rfl) Try.underlying4 rfl ?_ ?_
  · intro ds hds
    rw [Try.params3] at hds
    match ds, hds with
    | [d0], _ => rfl
  · intro W args ds p hA hval _
    rw [Try.params3] at hA hval
    obtain ⟨v0, d0, rfl, rfl, h0⟩ := trodAll_one hA
    obtain ⟨b0, hv0⟩ := hval 0 22 v0 rfl rfl
    obtain ⟨x0_0, x0_1, x0_2, x0_3, q0⟩ := opa_fts hv0 h0
    exact calls_of_opa q0 (faultChecks x0_0 x0_1 x0_2)
end Go.Vx.L55
namespace Go.Proofs.Ytafojofaegmbnaa
open Go.Vx.L55
theorem faultChecks_holds : Rows.FaultChecksSaid :=
  OpenClaim.holds_of_wide 3 Try.f3 rfl rfl rfl rfl rfl rfl rfl ⟨rfl, rfl, rfl, rfl, rfl⟩ rfl rfl rfl rfl rfl (by kernel_rfl) Try.func3 (by kernel_rfl)
    (of_decide_eq_true (by kernel_rfl)) (by unfold Func.isWrapper; first | (rw [if_pos (by decide +kernel)]; kernel_rfl) | (rw [if_neg (by decide +kernel)]; exact ⟨rfl, rfl⟩))
    (fun os started H enc _ => lifted3 os started H enc)
end Go.Proofs.Ytafojofaegmbnaa
