/- The law FaultOthers returns true for every input and leaves its arguments as they were. No condition. -/
import Derived.Test.YtafojofaegmbnaaN55
import Derived.Test.YtafojofaegmbnaaF23
set_option linter.unusedSimpArgs false
set_option linter.unusedVariables false
set_option maxRecDepth 100000
namespace Go.Vx.L55
open Go Go.Proofs Go.Proofs.Ytafojofaegmbnaa
open Go.ChangeShapes Go.WideShapes Go.RowKit Go.Deep
theorem lifted6 (os : Os) (started : os.Started) (H : Type) (enc : TypeId × Value → H) :
    ReturnsInHanded {} Try.checked os 6 .any (Rows.faultOthersSpec.pre6 enc Try.prog Try.f6 Rows.faultOthersRow.domain false) (Rows.faultOthersSpec.post enc Try.prog Try.f6 false true false false) := by
  refine law_lift (C := Try.checked) own started (by kernel_rfl) Try.func6
    (ChangeSpec.witness6 (enc := enc) (C := Try.checked) false ⟨#[], #[.slice none 0 0, .int .i64 0, .int .i64 0, .agg #[.int .i64 0, .int .i64 0, .int .i64 0, .int .i64 0, .int .i64 0, .int .i64 0, .int .u32 0, .int .u32 0, .int .u32 0, .int .u64 0, .int .u64 0, .int .u64 0, .int .u64 0], .agg #[.int .i64 0, .int .i64 0]], []⟩ 8 (by kernel_rfl) (by kernel_rfl) (by kernel_rfl) (by kernel_rfl)) laid (by kernel_rfl) (tb := 4) (by kernel_rfl) Try.underlying4 rfl ?_ ?_
  · intro ds hds
    rw [Try.params6] at hds
    match ds, hds with
    | [d0, d1, d2, d3, d4], _ => rfl
  · intro W args ds p hA hval _
    rw [Try.params6] at hA hval
    obtain ⟨v0, v1, v2, v3, v4, d0, d1, d2, d3, d4, p0, p1, p2, p3, p4, rfl, rfl, rfl, h0, h1, h2, h3, h4⟩ := trodAll_five hA
    obtain ⟨b0, hv0⟩ := hval 0 22 v0 rfl rfl
    obtain ⟨x0_0, x0_1, x0_2, x0_3, q0⟩ := opa_fts hv0 h0
    obtain ⟨b1, hv1⟩ := hval 1 3 v1 rfl rfl
    obtain ⟨n1, rfl, rfl, _, w1⟩ := open_int Try.underlying3 hv1 h1
    obtain ⟨b2, hv2⟩ := hval 2 3 v2 rfl rfl
    obtain ⟨n2, rfl, rfl, _, w2⟩ := open_int Try.underlying3 hv2 h2
    obtain ⟨b3, hv3⟩ := hval 3 33 v3 rfl rfl
    obtain ⟨x3_0, q3⟩ := opa_nt hv3 h3
    obtain ⟨b4, hv4⟩ := hval 4 35 v4 rfl rfl
    obtain ⟨x4_0, x4_1, x4_2, q4⟩ := opa_iv hv4 h4
    exact calls_of_opa ((((q0.app (opa_int (k := .i64) (z := n1))).app (opa_int (k := .i64) (z := n2))).app q3).app q4) (faultOthers x0_0 x0_1 x0_2 n1 n2 x3_0 x4_0 x4_1 x4_2)
end Go.Vx.L55
namespace Go.Proofs.Ytafojofaegmbnaa
open Go.Vx.L55
theorem faultOthers_holds : Rows.FaultOthersSaid :=
  OpenClaim.holds_of_wide 6 Try.f6 rfl rfl rfl rfl rfl rfl rfl ⟨rfl, rfl, rfl, rfl, rfl⟩ rfl rfl rfl rfl rfl (by kernel_rfl) Try.func6 (by kernel_rfl)
    (of_decide_eq_true (by kernel_rfl)) (by unfold Func.isWrapper; first | (rw [if_pos (by decide +kernel)]; kernel_rfl) | (rw [if_neg (by decide +kernel)]; exact ⟨rfl, rfl⟩))
    (fun os started H enc _ => lifted6 os started H enc)
end Go.Proofs.Ytafojofaegmbnaa
