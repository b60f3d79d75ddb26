/- The law IntervalTurned returns true for every input and leaves its arguments as they were. No condition. -/
import Derived.Test.YtpohlkhnilcfnaaL1
import Derived.Test.YtpohlkhnilcfnaaK14
set_option linter.unusedSimpArgs false
set_option linter.unusedVariables false
set_option maxRecDepth 100000
namespace Go.Vx.I23
open Go Go.Proofs Go.Proofs.Ytpohlkhnilcfnaa
open Go.ChangeShapes Go.WideShapes Go.RowKit Go.Deep
theorem lifted8 (os : Os) (started : os.Started) (H : Type) (enc : TypeId × Value → H) :
    ReturnsInHanded {} Try.checked os 8 .any (Rows.intervalTurnedSpec.pre6 enc Try.prog Try.f8 Rows.intervalTurnedRow.domain false) (Rows.intervalTurnedSpec.post enc Try.prog Try.f8 false true false false) := by
  refine law_lift (C := Try.checked) own started (by kernel_rfl) Try.func8
    (ChangeSpec.witness6 (enc := enc) (C := Try.checked) false ⟨#[], #[.slice none 0 0, .int .i64 0], []⟩ 8 (by kernel_rfl) (by kernel_rfl) (by kernel_rfl) (by kernel_rfl)) laid (by kernel_rfl) (tb := 4) (by kernel_rfl) Try.underlying4 rfl ?_ ?_
  · intro ds hds
    rw [Try.params8] at hds
    match ds, hds with
    | [d0, d1], _ => rfl
  · intro W args ds p hA hval _
    rw [Try.params8] at hA hval
    obtain ⟨v0, v1, d0, d1, p0, p1, rfl, rfl, rfl, h0, h1⟩ := trodAll_two hA
    obtain ⟨b0, hv0⟩ := hval 0 22 v0 rfl rfl
    obtain ⟨l0, cap0, o0, q0, r0⟩ := open_ivs hv0 h0
    obtain ⟨b1, hv1⟩ := hval 1 3 v1 rfl rfl
    obtain ⟨n1, rfl, rfl, _, w1⟩ := open_int Try.underlying3 hv1 h1
    exact calls_of_runs (law8 l0 cap0 n1) bl1_ro (lay1 o0) lay1_none (lay1_lt q0) (bl1_br (r0 (lay1 o0) 0 rfl).2) ⟨_, _, rfl, (r0 (lay1 o0) 0 rfl).1, ⟨_, _, rfl, rfl, rfl⟩⟩
end Go.Vx.I23
namespace Go.Proofs.Ytpohlkhnilcfnaa
open Go.Vx.I23
theorem intervalTurned_holds : Rows.IntervalTurnedSaid :=
  OpenClaim.holds_of_wide 8 Try.f8 rfl rfl rfl rfl rfl rfl rfl ⟨rfl, rfl, rfl, rfl, rfl⟩ rfl rfl rfl rfl rfl (by kernel_rfl) Try.func8 (by kernel_rfl)
    (of_decide_eq_true (by kernel_rfl)) (by unfold Func.isWrapper; first | (rw [if_pos (by decide +kernel)]; kernel_rfl) | (rw [if_neg (by decide +kernel)]; exact ⟨rfl, rfl⟩))
    (fun os started H enc _ => lifted8 os started H enc)
end Go.Proofs.Ytpohlkhnilcfnaa
