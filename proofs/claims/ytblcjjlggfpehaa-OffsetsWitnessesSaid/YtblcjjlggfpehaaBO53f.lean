/- The law OffsetsWitnesses returns true for every input and leaves its arguments as they were. No condition. -/
import Derived.Test.YtblcjjlggfpehaaBN53
import Derived.Test.YtblcjjlggfpehaaBC45
set_option linter.unusedSimpArgs false
set_option linter.unusedVariables false
set_option maxRecDepth 100000
namespace Go.Vx.L53
open Go Go.Proofs Go.Proofs.Ytblcjjlggfpehaa
open Go.ChangeShapes Go.WideShapes Go.RowKit Go.Deep
theorem lifted8 (os : Os) (started : os.Started) (H : Type) (enc : TypeId × Value → H) :
    ReturnsInHanded {} Try.checked os 8 .any (Rows.offsetsWitnessesSpec.pre6 enc Try.prog Try.f8 Rows.offsetsWitnessesRow.domain false) (Rows.offsetsWitnessesSpec.post enc Try.prog Try.f8 false true false false) := by
  refine law_lift (C := Try.checked) own started (by kernel_rfl) Try.func8
    (ChangeSpec.witness6 (enc := enc) (C := Try.checked) false ⟨#[], #[.slice none 0 0, .agg #[.int .i64 0, .int .i64 0, .slice none 0 0, .int .i64 0, .int .i64 0], .agg #[.int .i64 0, .bool false]], []⟩ 8 (by kernel_rfl) (by kernel_rfl) (by kernel_rfl) (by kernel_rfl)) laid (by kernel_rfl) (tb := 4) (by kernel_rfl) Try.underlying4 rfl ?_ ?_
  · intro ds hds
    rw [Try.params8] at hds
    match ds, hds with
    | [d0, d1, d2], _ => rfl
  · intro W args ds p hA hval _
    rw [Try.params8] at hA hval
    obtain ⟨v0, v1, v2, d0, d1, d2, p0, p1, p2, rfl, rfl, rfl, h0, h1, h2⟩ := trodAll_three hA
    obtain ⟨b0, hv0⟩ := hval 0 22 v0 rfl rfl
    obtain ⟨x0_0, x0_1, x0_2, x0_3, q0⟩ := opa_log hv0 h0
    obtain ⟨b1, hv1⟩ := hval 1 25 v1 rfl rfl
    obtain ⟨x1_0, x1_1, x1_2, x1_3, q1⟩ := opa_conf hv1 h1
    obtain ⟨b2, hv2⟩ := hval 2 47 v2 rfl rfl
    obtain ⟨x2_0, x2_1, q2⟩ := opa_ask hv2 h2
    exact calls_of_opa ((q0.app q1).app q2) (offsetsWitnesses x0_0 x0_1 x0_2 x1_0 x1_1 x1_2 x2_0 x2_1)
end Go.Vx.L53
namespace Go.Proofs.Ytblcjjlggfpehaa
open Go.Vx.L53
theorem offsetsWitnesses_holds : Rows.OffsetsWitnessesSaid :=
  OpenClaim.holds_of_wide 8 Try.f8 rfl rfl rfl rfl rfl rfl rfl ⟨rfl, rfl, rfl, rfl, rfl⟩ rfl rfl rfl rfl rfl (by kernel_rfl) Try.func8 (by kernel_rfl)
    (of_decide_eq_true (by kernel_rfl)) (by unfold Func.isWrapper; first | (rw [if_pos (by decide +kernel)]; kernel_rfl) | (rw [if_neg (by decide +kernel)]; exact ⟨rfl, rfl⟩))
    (fun os started H enc _ => lifted8 os started H enc)
end Go.Proofs.Ytblcjjlggfpehaa
