/- The law FaultShifts returns true for every input and leaves its arguments as they were. No condition. -/
import Derived.Test.YtafojofaegmbnaaN55
import Derived.Test.YtafojofaegmbnaaF22
set_option linter.unusedSimpArgs false
set_option linter.unusedVariables false
set_option maxRecDepth 100000
namespace Go.Vx.L55
open Go Go.Proofs Go.Proofs.Ytafojofaegmbnaa
open Go.ChangeShapes Go.WideShapes Go.RowKit Go.Deep
theorem lifted7 (os : Os) (started : os.Started) (H : Type) (enc : TypeId × Value → H) :
    ReturnsInHanded {} Try.checked os 7 .any (Rows.faultShiftsSpec.pre6 enc Try.prog Try.f7 Rows.faultShiftsRow.domain false) (Rows.faultShiftsSpec.post enc Try.prog Try.f7 false true false false) := by
  refine law_lift (C := Try.checked) own started (by kernel_rfl) Try.func7
    (ChangeSpec.witness6 (enc := enc) (C := Try.checked) false ⟨#[], #[.int .u32 0, .int .u32 0, .int .u32 0, .int .i64 0, .int .i32 0, .int .u16 0], []⟩ 8 (by kernel_rfl) (by kernel_rfl) (by kernel_rfl) (by kernel_rfl)) laid (by kernel_rfl) (tb := 4) (by kernel_rfl) Try.underlying4 rfl ?_ ?_
  · intro ds hds
    rw [Try.params7] at hds
    match ds, hds with
    | [d0, d1, d2, d3, d4, d5], _ => rfl
  · intro W args ds p hA hval _
    rw [Try.params7] at hA hval
    obtain ⟨v0, v1, v2, v3, v4, v5, d0, d1, d2, d3, d4, d5, p0, p1, p2, p3, p4, p5, rfl, rfl, rfl, h0, h1, h2, h3, h4, h5⟩ := trodAll_six hA
    obtain ⟨b0, hv0⟩ := hval 0 30 v0 rfl rfl
    obtain ⟨n0, rfl, rfl, _, w0⟩ := open_int Try.underlying30 hv0 h0
    obtain ⟨b1, hv1⟩ := hval 1 30 v1 rfl rfl
    obtain ⟨n1, rfl, rfl, _, w1⟩ := open_int Try.underlying30 hv1 h1
    obtain ⟨b2, hv2⟩ := hval 2 30 v2 rfl rfl
    obtain ⟨n2, rfl, rfl, _, w2⟩ := open_int Try.underlying30 hv2 h2
    obtain ⟨b3, hv3⟩ := hval 3 3 v3 rfl rfl
    obtain ⟨n3, rfl, rfl, _, w3⟩ := open_int Try.underlying3 hv3 h3
    obtain ⟨b4, hv4⟩ := hval 4 21 v4 rfl rfl
    obtain ⟨n4, rfl, rfl, _, w4⟩ := open_int Try.underlying21 hv4 h4
    obtain ⟨b5, hv5⟩ := hval 5 47 v5 rfl rfl
    obtain ⟨n5, rfl, rfl, _, w5⟩ := open_int Try.underlying47 hv5 h5
    exact calls_of_opa ((((((opa_int (k := .u32) (z := n0)).app (opa_int (k := .u32) (z := n1))).app (opa_int (k := .u32) (z := n2))).app (opa_int (k := .i64) (z := n3))).app (opa_int (k := .i32) (z := n4))).app (opa_int (k := .u16) (z := n5))) (faultShifts n0 n1 n2 n3 n4 n5 w0 w1 w2 w3 w4 w5)
end Go.Vx.L55
namespace Go.Proofs.Ytafojofaegmbnaa
open Go.Vx.L55
theorem faultShifts_holds : Rows.FaultShiftsSaid :=
  OpenClaim.holds_of_wide 7 Try.f7 rfl rfl rfl rfl rfl rfl rfl ⟨rfl, rfl, rfl, rfl, rfl⟩ rfl rfl rfl rfl rfl (by kernel_rfl) Try.func7 (by kernel_rfl)
    (of_decide_eq_true (by kernel_rfl)) (by unfold Func.isWrapper; first | (rw [if_pos (by decide +kernel)]; kernel_rfl) | (rw [if_neg (by decide +kernel)]; exact ⟨rfl, rfl⟩))
    (fun os started H enc _ => lifted7 os started H enc)
end Go.Proofs.Ytafojofaegmbnaa
