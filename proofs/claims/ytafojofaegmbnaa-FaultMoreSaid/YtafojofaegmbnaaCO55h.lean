/- The law FaultMore returns true for every input and leaves its arguments as they were. No condition. -/
import Derived.Test.YtafojofaegmbnaaCN57
import Derived.Carry
set_option linter.unusedSimpArgs false
set_option linter.unusedVariables false
set_option maxRecDepth 100000
namespace Go.Vx.L55
open Go Go.Proofs Go.Proofs.Ytafojofaegmbnaa
open Go.ChangeShapes Go.WideShapes Go.RowKit Go.Deep
theorem lifted10 (os : Os) (started : os.Started) (H : Type) (enc : TypeId × Value → H) :
    ReturnsInHanded {} Try.checked os 10 .any (Rows.faultMoreSpec.pre6 enc Try.prog Try.f10 Rows.faultMoreRow.domain false) (Rows.faultMoreSpec.post enc Try.prog Try.f10 false true false false) := by
  refine law_liftS (C := Try.checked) own started (by kernel_rfl) Try.func10
    (ChangeSpec.witness6 (enc := enc) (C := Try.checked) false ⟨#[], #[.int .i64 0, .slice none 0 0, .slice none 0 0, .agg #[.int .i64 0, .int .i64 0, .int .i64 0, .int .i64 0, .int .i64 0]], []⟩ 8 (by kernel_rfl) (by kernel_rfl) (by kernel_rfl) (by kernel_rfl)) laid (by kernel_rfl) (tb := 4) (by kernel_rfl) Try.underlying4 rfl ?_ ?_
  · intro ds hds
    rw [Try.params10] at hds
    match ds, hds with
    | [d0, d1, d2, d3], _ => rfl
  · intro W args ds p hA hval hwt
    rw [Try.params10] at hA hval
    obtain ⟨v0, v1, v2, v3, d0, d1, d2, d3, p0, p1, p2, p3, rfl, rfl, rfl, h0, h1, h2, h3⟩ := trodAll_four hA
    obtain ⟨b0, hv0⟩ := hval 0 3 v0 rfl rfl
    obtain ⟨n0, rfl, rfl, _, w0⟩ := open_int Try.underlying3 hv0 h0
    obtain ⟨b1, hv1⟩ := hval 1 41 v1 rfl rfl
    obtain ⟨x1_0, x1_1, x1_2, x1_3, x1_4, q1⟩ := opa_rows hv1 h1 (fun n hn => hwt 1 41 d1 rfl rfl n hn)
    obtain ⟨b2, hv2⟩ := hval 2 22 v2 rfl rfl
    obtain ⟨x2_0, x2_1, x2_2, x2_3, q2⟩ := opa_ftsS hv2 h2 (fun n hn => hwt 2 22 d2 rfl rfl n hn)
    obtain ⟨b3, hv3⟩ := hval 3 46 v3 rfl rfl
    obtain ⟨x3_0, q3⟩ := opa_ft hv3 h3
    exact calls_of_opa ((((opa_int (k := .i64) (z := n0)).app q1).app q2).app q3) (faultMore n0 x1_0 x1_1 x1_2 x1_3 x2_0 x2_1 x2_2 x3_0)
end Go.Vx.L55
namespace Go.Proofs.Ytafojofaegmbnaa
open Go.Vx.L55
theorem faultMore_holds : Rows.FaultMoreSaid :=
  OpenClaim.holds_of_wide 10 Try.f10 rfl rfl rfl rfl rfl rfl rfl ⟨rfl, rfl, rfl, rfl, rfl⟩ rfl rfl rfl rfl rfl (by kernel_rfl) Try.func10 (by kernel_rfl)
    (of_decide_eq_true (by kernel_rfl)) (by unfold Func.isWrapper; first | (rw [if_pos (by decide +kernel)]; kernel_rfl) | (rw [if_neg (by decide +kernel)]; exact ⟨rfl, rfl⟩))
    (fun os started H enc _ => lifted10 os started H enc)
end Go.Proofs.Ytafojofaegmbnaa
