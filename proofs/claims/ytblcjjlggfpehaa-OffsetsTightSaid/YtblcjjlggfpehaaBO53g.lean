/- The law OffsetsTight returns true for every input and leaves its arguments as they were. No condition. -/
import Derived.Test.YtblcjjlggfpehaaBN53
import Derived.Test.YtblcjjlggfpehaaBC48
set_option linter.unusedSimpArgs false
set_option linter.unusedVariables false
set_option maxRecDepth 100000
namespace Go.Vx.L53
open Go Go.Proofs Go.Proofs.Ytblcjjlggfpehaa
open Go.ChangeShapes Go.WideShapes Go.RowKit Go.Deep
theorem lifted9 (os : Os) (started : os.Started) (H : Type) (enc : TypeId × Value → H) :
    ReturnsInHanded {} Try.checked os 9 .any (Rows.offsetsTightSpec.pre6 enc Try.prog Try.f9 Rows.offsetsTightRow.domain false) (Rows.offsetsTightSpec.post enc Try.prog Try.f9 false true false false) := by
  refine law_lift (C := Try.checked) own started (by kernel_rfl) Try.func9
    (ChangeSpec.witness6 (enc := enc) (C := Try.checked) false ⟨#[], #[.slice none 0 0, .agg #[.int .i64 0, .int .i64 0, .slice none 0 0, .int .i64 0, .int .i64 0], .slice none 0 0], []⟩ 8 (by kernel_rfl) (by kernel_rfl) (by kernel_rfl) (by kernel_rfl)) laid (by kernel_rfl) (tb := 4) (by kernel_rfl) Try.underlying4 rfl ?_ ?_
  · intro ds hds
    rw [Try.params9] at hds
    match ds, hds with
    | [d0, d1, d2], _ => rfl
  · intro W args ds p hA hval _
    rw [Try.params9] at hA hval
    obtain ⟨v0, v1, v2, d0, d1, d2, p0, p1, p2, rfl, rfl, rfl, h0, h1, h2⟩ := trodAll_three hA
    obtain ⟨b0, hv0⟩ := hval 0 22 v0 rfl rfl
    obtain ⟨x0_0, x0_1, x0_2, x0_3, q0⟩ := opa_log hv0 h0
    obtain ⟨b1, hv1⟩ := hval 1 25 v1 rfl rfl
    obtain ⟨x1_0, x1_1, x1_2, x1_3, q1⟩ := opa_conf hv1 h1
    obtain ⟨b2, hv2⟩ := hval 2 23 v2 rfl rfl
    obtain ⟨x2_0, x2_1, x2_2, x2_3, q2⟩ := opa_times hv2 h2
    exact calls_of_opa ((q0.app q1).app q2) (offsetsTight x0_0 x0_1 x0_2 x1_0 x1_1 x1_2 x2_0 x2_1 x2_2)
end Go.Vx.L53
namespace Go.Proofs.Ytblcjjlggfpehaa
open Go.Vx.L53
theorem offsetsTight_holds : Rows.OffsetsTightSaid :=
  OpenClaim.holds_of_wide 9 Try.f9 rfl rfl rfl rfl rfl rfl rfl ⟨rfl, rfl, rfl, rfl, rfl⟩ rfl rfl rfl rfl rfl (by kernel_rfl) Try.func9 (by kernel_rfl)
    (of_decide_eq_true (by kernel_rfl)) (by unfold Func.isWrapper; first | (rw [if_pos (by decide +kernel)]; kernel_rfl) | (rw [if_neg (by decide +kernel)]; exact ⟨rfl, rfl⟩))
    (fun os started H enc _ => lifted9 os started H enc)
end Go.Proofs.Ytblcjjlggfpehaa
