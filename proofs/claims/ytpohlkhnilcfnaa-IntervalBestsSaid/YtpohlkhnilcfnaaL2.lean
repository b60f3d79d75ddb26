/- The law IntervalBests returns true for every input and leaves its argument as it was. No condition. -/
import Derived.Test.YtpohlkhnilcfnaaL1
set_option linter.unusedSimpArgs false
set_option linter.unusedVariables false
set_option maxRecDepth 100000
namespace Go.Vx.I23
open Go Go.Proofs Go.Proofs.Ytpohlkhnilcfnaa
open Go.ChangeShapes Go.WideShapes Go.RowKit Go.Deep
theorem lifted4 (os : Os) (started : os.Started) (H : Type) (enc : TypeId × Value → H) :
    ReturnsInHanded {} Try.checked os 4 .any (Rows.intervalBestsSpec.pre6 enc Try.prog Try.f4 Rows.intervalBestsRow.domain false) (Rows.intervalBestsSpec.post enc Try.prog Try.f4 false true false false) := by
  refine law_lift (C := Try.checked) own started (by kernel_rfl) Try.func4
    (ChangeSpec.witness6 (enc := enc) (C := Try.checked) false ⟨#[], #[.slice none 0 0], []⟩ 8 (by kernel_rfl) (by kernel_rfl) (by kernel_rfl) (by kernel_rfl)) laid (by kernel_rfl) (tb := 4) (by kernel_rfl) Try.underlying4 rfl ?_ ?_
  · intro ds hds
    rw [Try.params4] at hds
    match ds, hds with
    | [d0], _ => rfl
  · intro W args ds p hA hval _
    rw [Try.params4] at hA hval
    obtain ⟨v0, d0, rfl, rfl, h0⟩ := trodAll_one hA
    obtain ⟨b0, hv0⟩ := hval 0 22 v0 rfl rfl
    obtain ⟨l0, cap0, o0, q0, r0⟩ := open_ivs hv0 h0
    exact calls_of_runs (law4 l0 cap0) bl1_ro (lay1 o0) lay1_none (lay1_lt q0) (bl1_br (r0 (lay1 o0) 0 rfl).2) ⟨_, _, rfl, (r0 (lay1 o0) 0 rfl).1, rfl⟩
end Go.Vx.I23
namespace Go.Proofs.Ytpohlkhnilcfnaa
open Go.Vx.I23
theorem intervalBests_holds : Rows.IntervalBestsSaid :=
  OpenClaim.holds_of_wide 4 Try.f4 rfl rfl rfl rfl rfl rfl rfl ⟨rfl, rfl, rfl, rfl, rfl⟩ rfl rfl rfl rfl rfl (by kernel_rfl) Try.func4 (by kernel_rfl)
    (of_decide_eq_true (by kernel_rfl)) (by unfold Func.isWrapper; first | (rw [if_pos (by decide +kernel)]; kernel_rfl) | (rw [if_neg (by decide +kernel)]; exact ⟨rfl, rfl⟩))
    (fun os started H enc _ => lifted4 os started H enc)
end Go.Proofs.Ytpohlkhnilcfnaa
