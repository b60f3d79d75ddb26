/- The law LimiterKisses returns true for every input and leaves its arguments as they were. No condition. -/
import Derived.Test.YteefcjenckgaaaaM15
set_option linter.unusedSimpArgs false
set_option linter.unusedVariables false
set_option maxRecDepth 100000
namespace Go.Vx.L28
open Go Go.Proofs Go.Proofs.Yteefcjenckgaaaa
open Go.ChangeShapes Go.WideShapes Go.RowKit Go.Deep
theorem lifted8 (os : Os) (started : os.Started) (H : Type) (enc : TypeId × Value → H) :
    ReturnsInHanded {} Try.checked os 8 .any (Rows.limiterKissesSpec.pre6 enc Try.prog Try.f8 Rows.limiterKissesRow.domain false) (Rows.limiterKissesSpec.post enc Try.prog Try.f8 false true false false) := by
  refine law_lift (C := Try.checked) own started (by kernel_rfl) Try.func8
    (ChangeSpec.witness6 (enc := enc) (C := Try.checked) false ⟨#[], #[.agg #[.int .i64 0, .int .i64 0, .int .i64 0, .int .i64 0, .int .i64 0], .int .i64 0, .slice none 0 0], []⟩ 8 (by kernel_rfl) (by kernel_rfl) (by kernel_rfl) (by kernel_rfl)) laid (by kernel_rfl) (tb := 4) (by kernel_rfl) Try.underlying4 rfl ?_ ?_
  · intro ds hds
    rw [Try.params8] at hds
    match ds, hds with
    | [d0, d1, d2], _ => rfl
  · intro W args ds p hA hval _
    rw [Try.params8] at hA hval
    obtain ⟨v0, v1, v2, d0, d1, d2, p0, p1, p2, rfl, rfl, rfl, h0, h1, h2⟩ := trodAll_three hA
    obtain ⟨b0, hv0⟩ := hval 0 23 v0 rfl rfl
    obtain ⟨x0_0, q0⟩ := opa_cf hv0 h0
    obtain ⟨b1, hv1⟩ := hval 1 3 v1 rfl rfl
    obtain ⟨n1, rfl, rfl, _, w1⟩ := open_int Try.underlying3 hv1 h1
    obtain ⟨b2, hv2⟩ := hval 2 40 v2 rfl rfl
    obtain ⟨x2_0, x2_1, x2_2, x2_3, q2⟩ := opa_ints hv2 h2
    exact calls_of_opa ((q0.app (opa_int (k := .i64) (z := n1))).app q2) (law8 x0_0 n1 (wf_i64 w1).2 x2_0 x2_1)
end Go.Vx.L28
namespace Go.Proofs.Yteefcjenckgaaaa
open Go.Vx.L28
theorem limiterKisses_holds : Rows.LimiterKissesSaid :=
  OpenClaim.holds_of_wide 8 Try.f8 rfl rfl rfl rfl rfl rfl rfl ⟨rfl, rfl, rfl, rfl, rfl⟩ rfl rfl rfl rfl rfl (by kernel_rfl) Try.func8 (by kernel_rfl)
    (of_decide_eq_true (by kernel_rfl)) (by unfold Func.isWrapper; first | (rw [if_pos (by decide +kernel)]; kernel_rfl) | (rw [if_neg (by decide +kernel)]; exact ⟨rfl, rfl⟩))
    (fun os started H enc _ => lifted8 os started H enc)
end Go.Proofs.Yteefcjenckgaaaa
