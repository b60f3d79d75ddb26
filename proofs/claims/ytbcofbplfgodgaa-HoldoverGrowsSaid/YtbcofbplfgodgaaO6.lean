/- The law HoldoverGrows returns true for every input and leaves its arguments as they were. No condition. -/
import Derived.Test.YtbcofbplfgodgaaN15
import Derived.Carry
set_option linter.unusedSimpArgs false
set_option linter.unusedVariables false
set_option maxRecDepth 100000
namespace Go.Vx.L14
open Go Go.Proofs Go.Proofs.Ytbcofbplfgodgaa
open Go.ChangeShapes Go.WideShapes Go.RowKit Go.Deep
theorem lifted6 (os : Os) (started : os.Started) (H : Type) (enc : TypeId × Value → H) :
    ReturnsInHanded {} Try.checked os 6 .any (Rows.holdoverGrowsSpec.pre6 enc Try.prog Try.f6 Rows.holdoverGrowsRow.domain false) (Rows.holdoverGrowsSpec.post enc Try.prog Try.f6 false true false false) := by
  refine law_lift (C := Try.checked) own started (by kernel_rfl) Try.func6
    (ChangeSpec.witness6 (enc := enc) (C := Try.checked) false ⟨#[], #[.agg #[.int .i64 0, .int .i64 0, .int .i64 0, .int .i64 0], .slice none 0 0, .int .i64 0, .int .i64 0], []⟩ 8 (by kernel_rfl) (by kernel_rfl) (by kernel_rfl) (by kernel_rfl)) laid (by kernel_rfl) (tb := 4) (by kernel_rfl) Try.underlying4 rfl ?_ ?_
  · intro ds hds
    rw [Try.params6] at hds
    match ds, hds with
    | [d0, d1, d2, d3], _ => rfl
  · intro W args ds p hA hval _
    rw [Try.params6] at hA hval
    obtain ⟨v0, v1, v2, v3, d0, d1, d2, d3, p0, p1, p2, p3, rfl, rfl, rfl, h0, h1, h2, h3⟩ := trodAll_four hA
    obtain ⟨b0, hv0⟩ := hval 0 23 v0 rfl rfl
    obtain ⟨x0_0, q0⟩ := opa_cf hv0 h0
    obtain ⟨b1, hv1⟩ := hval 1 32 v1 rfl rfl
    obtain ⟨x1_0, x1_1, x1_2, x1_3, q1⟩ := opa_ops hv1 h1
    obtain ⟨b2, hv2⟩ := hval 2 3 v2 rfl rfl
    obtain ⟨n2, rfl, rfl, _, w2⟩ := open_int Try.underlying3 hv2 h2
    obtain ⟨b3, hv3⟩ := hval 3 3 v3 rfl rfl
    obtain ⟨n3, rfl, rfl, _, w3⟩ := open_int Try.underlying3 hv3 h3
    exact calls_of_opa (((q0.app q1).app (opa_int (k := .i64) (z := n2))).app (opa_int (k := .i64) (z := n3))) (law6 x0_0 x1_0 x1_1 x1_2 n2 n3)
end Go.Vx.L14
namespace Go.Proofs.Ytbcofbplfgodgaa
open Go.Vx.L14
theorem holdoverGrows_holds : Rows.HoldoverGrowsSaid :=
  OpenClaim.holds_of_wide 6 Try.f6 rfl rfl rfl rfl rfl rfl rfl ⟨rfl, rfl, rfl, rfl, rfl⟩ rfl rfl rfl rfl rfl (by kernel_rfl) Try.func6 (by kernel_rfl)
    (of_decide_eq_true (by kernel_rfl)) (by unfold Func.isWrapper; first | (rw [if_pos (by decide +kernel)]; kernel_rfl) | (rw [if_neg (by decide +kernel)]; exact ⟨rfl, rfl⟩))
    (fun os started H enc _ => lifted6 os started H enc)
end Go.Proofs.Ytbcofbplfgodgaa
