/- The law HoldoverNobody returns true for every input and leaves its arguments as they were. No condition. -/
import Derived.Test.YtbcofbplfgodgaaN14
set_option linter.unusedSimpArgs false
set_option linter.unusedVariables false
set_option maxRecDepth 100000
namespace Go.Vx.L14
open Go Go.Proofs Go.Proofs.Ytbcofbplfgodgaa
open Go.ChangeShapes Go.WideShapes Go.RowKit Go.Deep
theorem lifted8 (os : Os) (started : os.Started) (H : Type) (enc : TypeId × Value → H) :
    ReturnsInHanded {} Try.checked os 8 .any (Rows.holdoverNobodySpec.pre6 enc Try.prog Try.f8 Rows.holdoverNobodyRow.domain false) (Rows.holdoverNobodySpec.post enc Try.prog Try.f8 false true false false) := by
  refine law_lift (C := Try.checked) own started (by kernel_rfl) Try.func8
    (ChangeSpec.witness6 (enc := enc) (C := Try.checked) false ⟨#[], #[.int .i64 0, .int .i64 0], []⟩ 8 (by kernel_rfl) (by kernel_rfl) (by kernel_rfl) (by kernel_rfl)) laid (by kernel_rfl) (tb := 4) (by kernel_rfl) Try.underlying4 rfl ?_ ?_
  · intro ds hds
    rw [Try.params8] at hds
    match ds, hds with
    | [d0, d1], _ => rfl
  · intro W args ds p hA hval _
    rw [Try.params8] at hA hval
    obtain ⟨v0, v1, d0, d1, p0, p1, rfl, rfl, rfl, h0, h1⟩ := trodAll_two hA
    obtain ⟨b0, hv0⟩ := hval 0 3 v0 rfl rfl
    obtain ⟨n0, rfl, rfl, _, w0⟩ := open_int Try.underlying3 hv0 h0
    obtain ⟨b1, hv1⟩ := hval 1 3 v1 rfl rfl
    obtain ⟨n1, rfl, rfl, _, w1⟩ := open_int Try.underlying3 hv1 h1
    exact calls_of_opa ((opa_int (k := .i64) (z := n0)).app (opa_int (k := .i64) (z := n1))) (law8 n0 n1)
end Go.Vx.L14
namespace Go.Proofs.Ytbcofbplfgodgaa
open Go.Vx.L14
theorem holdoverNobody_holds : Rows.HoldoverNobodySaid :=
  OpenClaim.holds_of_wide 8 Try.f8 rfl rfl rfl rfl rfl rfl rfl ⟨rfl, rfl, rfl, rfl, rfl⟩ rfl rfl rfl rfl rfl (by kernel_rfl) Try.func8 (by kernel_rfl)
    (of_decide_eq_true (by kernel_rfl)) (by unfold Func.isWrapper; first | (rw [if_pos (by decide +kernel)]; kernel_rfl) | (rw [if_neg (by decide +kernel)]; exact ⟨rfl, rfl⟩))
    (fun os started H enc _ => lifted8 os started H enc)
end Go.Proofs.Ytbcofbplfgodgaa
