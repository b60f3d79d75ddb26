/- The law FaultNarrows returns true for every input and leaves its arguments as they were. No condition. -/
import Derived.Test.YtafojofaegmbnaaN55
import Derived.Test.YtafojofaegmbnaaF21
set_option linter.unusedSimpArgs false
set_option linter.unusedVariables false
set_option maxRecDepth 100000
namespace Go.Vx.L55
open Go Go.Proofs Go.Proofs.Ytafojofaegmbnaa
open Go.ChangeShapes Go.WideShapes Go.RowKit Go.Deep
theorem lifted8 (os : Os) (started : os.Started) (H : Type) (enc : TypeId × Value → H) :
    ReturnsInHanded {} Try.checked os 8 .any (Rows.faultNarrowsSpec.pre6 enc Try.prog Try.f8 Rows.faultNarrowsRow.domain false) (Rows.faultNarrowsSpec.post enc Try.prog Try.f8 false true false false) := by
  refine law_lift (C := Try.checked) own started (by kernel_rfl) Try.func8
    (ChangeSpec.witness6 (enc := enc) (C := Try.checked) false ⟨#[], #[.agg #[.int .i64 0, .int .i64 0], .int .u32 0, .int .u32 0], []⟩ 8 (by kernel_rfl) (by kernel_rfl) (by kernel_rfl) (by kernel_rfl)) laid (by kernel_rfl) (tb := 4) (by kernel_rfl) Try.underlying4 rfl ?_ ?_
  · intro ds hds
    rw [Try.params8] at hds
    match ds, hds with
    | [d0, d1, d2], _ => rfl
  · intro W args ds p hA hval _
    rw [Try.params8] at hA hval
    obtain ⟨v0, v1, v2, d0, d1, d2, p0, p1, p2, rfl, rfl, rfl, h0, h1, h2⟩ := trodAll_three hA
    obtain ⟨b0, hv0⟩ := hval 0 35 v0 rfl rfl
    obtain ⟨x0_0, x0_1, x0_2, q0⟩ := opa_iv hv0 h0
    obtain ⟨b1, hv1⟩ := hval 1 30 v1 rfl rfl
    obtain ⟨n1, rfl, rfl, _, w1⟩ := open_int Try.underlying30 hv1 h1
    obtain ⟨b2, hv2⟩ := hval 2 30 v2 rfl rfl
    obtain ⟨n2, rfl, rfl, _, w2⟩ := open_int Try.underlying30 hv2 h2
    exact calls_of_opa ((q0.app (opa_int (k := .u32) (z := n1))).app (opa_int (k := .u32) (z := n2))) (faultNarrows x0_0 x0_1 n1 n2 x0_2 w1 w2)
end Go.Vx.L55
namespace Go.Proofs.Ytafojofaegmbnaa
open Go.Vx.L55
theorem faultNarrows_holds : Rows.FaultNarrowsSaid :=
  OpenClaim.holds_of_wide 8 Try.f8 rfl rfl rfl rfl rfl rfl rfl ⟨rfl, rfl, rfl, rfl, rfl⟩ rfl rfl rfl rfl rfl (by kernel_rfl) Try.func8 (by kernel_rfl)
    (of_decide_eq_true (by kernel_rfl)) (by unfold Func.isWrapper; first | (rw [if_pos (by decide +kernel)]; kernel_rfl) | (rw [if_neg (by decide +kernel)]; exact ⟨rfl, rfl⟩))
    (fun os started H enc _ => lifted8 os started H enc)
end Go.Proofs.Ytafojofaegmbnaa
