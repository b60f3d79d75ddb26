/- The law ChooseShifts returns true for every input and leaves its arguments as they were. No condition. -/
import Derived.Test.YtpohlkhnilcfnaaDL10
import Derived.Test.YtpohlkhnilcfnaaDH12
set_option linter.unusedSimpArgs false
set_option linter.unusedVariables false
set_option maxRecDepth 100000
namespace Go.Vx.I23
open Go Go.Proofs Go.Proofs.Ytpohlkhnilcfnaa
open Go.ChangeShapes Go.WideShapes Go.RowKit Go.Deep
theorem lifted14 (os : Os) (started : os.Started) (H : Type) (enc : TypeId × Value → H) :
    ReturnsInHanded {} Try.checked os 14 .any (Rows.chooseShiftsSpec.pre6 enc Try.prog Try.f14 Rows.chooseShiftsRow.domain false) (Rows.chooseShiftsSpec.post enc Try.prog Try.f14 false true false false) := by
  refine law_lift (C := Try.checked) own started (by kernel_rfl) Try.func14
    (ChangeSpec.witness6 (enc := enc) (C := Try.checked) false ⟨#[], #[.slice none 0 0, .int .i16 0], []⟩ 8 (by kernel_rfl) (by kernel_rfl) (by kernel_rfl) (by kernel_rfl)) laid (by kernel_rfl) (tb := 4) (by kernel_rfl) Try.underlying4 rfl ?_ ?_
  · intro ds hds
    rw [Try.params14] at hds
    match ds, hds with
    | [d0, d1], _ => rfl
  · intro W args ds p hA hval _
    rw [Try.params14] at hA hval
    obtain ⟨v0, v1, d0, d1, p0, p1, rfl, rfl, rfl, h0, h1⟩ := trodAll_two hA
    obtain ⟨b0, hv0⟩ := hval 0 44 v0 rfl rfl
    obtain ⟨x0_0, x0_1, x0_2, q0⟩ := opa_cands hv0 h0
    obtain ⟨b1, hv1⟩ := hval 1 55 v1 rfl rfl
    obtain ⟨n1, rfl, rfl, _, w1⟩ := open_int Try.underlying55 hv1 h1
    exact calls_of_opa (q0.app (opa_int (k := .i16) (z := n1))) (law14 x0_0 x0_1 n1 w1)
end Go.Vx.I23
namespace Go.Proofs.Ytpohlkhnilcfnaa
open Go.Vx.I23
theorem chooseShifts_holds : Rows.ChooseShiftsSaid :=
  OpenClaim.holds_of_wide 14 Try.f14 rfl rfl rfl rfl rfl rfl rfl ⟨rfl, rfl, rfl, rfl, rfl⟩ rfl rfl rfl rfl rfl (by kernel_rfl) Try.func14 (by kernel_rfl)
    (of_decide_eq_true (by kernel_rfl)) (by unfold Func.isWrapper; first | (rw [if_pos (by decide +kernel)]; kernel_rfl) | (rw [if_neg (by decide +kernel)]; exact ⟨rfl, rfl⟩))
    (fun os started H enc _ => lifted14 os started H enc)
end Go.Proofs.Ytpohlkhnilcfnaa
