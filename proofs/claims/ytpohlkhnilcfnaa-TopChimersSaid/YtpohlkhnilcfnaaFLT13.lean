/- The law TopChimers returns true for every input and leaves its argument as it was. No condition. -/
import Derived.Test.YtpohlkhnilcfnaaFH13a
import Derived.Test.YtpohlkhnilcfnaaFL10
set_option linter.unusedSimpArgs false
set_option linter.unusedVariables false
set_option maxRecDepth 100000
namespace Go.Vx.I23
open Go Go.Proofs Go.Proofs.Ytpohlkhnilcfnaa
open Go.ChangeShapes Go.WideShapes Go.RowKit Go.Deep
theorem lifted13 (os : Os) (started : os.Started) (H : Type) (enc : TypeId × Value → H) :
    ReturnsInHanded {} Try.checked os 13 .any (Rows.topChimersSpec.pre6 enc Try.prog Try.f13 Rows.topChimersRow.domain false) (Rows.topChimersSpec.post enc Try.prog Try.f13 false true false false) := by
  refine law_lift (C := Try.checked) own started (by kernel_rfl) Try.func13
    (ChangeSpec.witness6 (enc := enc) (C := Try.checked) false ⟨#[], #[.slice none 0 0], []⟩ 8 (by kernel_rfl) (by kernel_rfl) (by kernel_rfl) (by kernel_rfl)) laid (by kernel_rfl) (tb := 4) (by kernel_rfl) Try.underlying4 rfl ?_ ?_
  · intro ds hds
    rw [Try.params13] at hds
    match ds, hds with
    | [d0], _ => rfl
  · intro W args ds p hA hval _
    rw [Try.params13] at hA hval
    obtain ⟨v0, d0, rfl, rfl, h0⟩ := trodAll_one hA
    obtain ⟨b0, hv0⟩ := hval 0 44 v0 rfl rfl
    obtain ⟨x0_0, x0_1, x0_2, q0⟩ := opa_cands hv0 h0
    exact calls_of_opa q0 (law13 x0_0 x0_1)
end Go.Vx.I23
namespace Go.Proofs.Ytpohlkhnilcfnaa
open Go.Vx.I23
theorem topChimers_holds : Rows.TopChimersSaid :=
  OpenClaim.holds_of_wide 13 Try.f13 rfl rfl rfl rfl rfl rfl rfl ⟨rfl, rfl, rfl, rfl, rfl⟩ rfl rfl rfl rfl rfl (by kernel_rfl) Try.func13 (by kernel_rfl)
    (of_decide_eq_true (by kernel_rfl)) (by unfold Func.isWrapper; first | (rw [if_pos (by decide +kernel)]; kernel_rfl) | (rw [if_neg (by decide +kernel)]; exact ⟨rfl, rfl⟩))
    (fun os started H enc _ => lifted13 os started H enc)
end Go.Proofs.Ytpohlkhnilcfnaa
