/- Lemmas of a small executor for the model, and contracts of functions, used for the law that this claim proves. No condition. -/
import Derived.Test.YtodbfpjjahpahaaGreatDoorEN58w
import Derived.Test.YtodbfpjjahpahaaGreatDoorERCD
import Derived.Test.YtodbfpjjahpahaaGreatDoorTie
import Derived.Test.YtodbfpjjahpahaaGreatDoorCards
import Derived.SevenTiedAt
set_option linter.unusedSimpArgs false
set_option linter.unusedVariables false
set_option maxRecDepth 100000
namespace Go.Vx.L58
open Go Go.Proofs Go.Proofs.YtodbfpjjahpahaaGreatDoor
open Go.ChangeShapes Go.WideShapes Go.RowKit Go.Deep
theorem c4g (os : Os) (args : Array Value) : laidMetH Tryz.prog LD ((World.doorLaid Tryz.prog 36 os).forCall (fun _ _ => 0) ⟨#[], args, []⟩).memory :=
 laidMetH_of_parts3 (fuel := 8) (laidMet_of_run' 8 (by kernel_rfl) (by kernel_rfl)) (by kernel_rfl) (by kernel_rfl)
theorem d1c (os : Os) (started : os.Started) (H : Type) (enc : TypeId × Value -> H) :
  ReturnsInHanded {} Tryz.checked os 3 .any (fun w args => (Rows.ptpsimRunsSpec.pre enc Tryz.prog Tryz.f3 [] false w args /\ laidMetH Tryz.prog LD w) /\ sizedMet enc Tryz.prog Tryz.f3 (OpenSpec.ofChange Rows.ptpsimRunsSpec) false w args)
   (Rows.ptpsimRunsSpec.post enc Tryz.prog Tryz.f3 false true false false) := by
 refine c02 (C := Tryz.checked) own started (by kernel_rfl) Tryz.func3
  (ChangeSpec.witness_shaped (enc := enc) (C := Tryz.checked) (os := os) (X := fun w _ => laidMetH Tryz.prog LD w) false (World.doorLaid Tryz.prog 36 os) #[.agg #[.int .i64 0, .slice none 0 0, .slice none 0 0, .slice none 0 0, .slice none 0 0, .slice none 0 0, .slice none 0 0, .slice none 0 0], .int .i64 0] 8 rfl (World.shaped_of_RefB (by kernel_rfl) (by kernel_rfl)) (by kernel_rfl) (by kernel_rfl) (by kernel_rfl) (c4g os _)) laid (by kernel_rfl) (tb := 4) (by kernel_rfl) Tryz.underlying4 rfl ?_ ?_
 ·intro ds hds
  rw [Tryz.params3] at hds
  match ds, hds with
  | [d0, d1], _ => rfl
 ·intro W args ds p hL hA hval _
  rw [Tryz.params3] at hA hval
  obtain ⟨v0, v1, d0, d1, p0, p1, rfl, rfl, rfl, h0, h1⟩ := trodAll_two hA
  obtain ⟨b0, hv0⟩ := hval 0 32 v0 rfl rfl
  obtain ⟨x0_0, x0_1, x0_2, x0_3, x0_4, x0_5, x0_6, x0_7, x0_8, x0_9, q0⟩ := c1w hv0 h0
  obtain ⟨b1, hv1⟩ := hval 1 3 v1 rfl rfl
  obtain ⟨n1, rfl, rfl, _, w1⟩ := open_int Tryz.underlying3 hv1 h1
  exact b39 (q0.app (c05 (k := .i64) (z := n1))) (b9k x0_0 x0_1 n1) (c93 hL)
end Go.Vx.L58
namespace Go.Proofs.YtodbfpjjahpahaaGreatDoor
open Go.Vx.L58
theorem ptpsimRuns_row : Rows.PtpsimRunsSaid :=
 OpenClaim.holds_of_wide 3 Tryz.f3 rfl rfl rfl rfl rfl rfl rfl ⟨rfl, rfl, rfl, rfl, rfl⟩ rfl rfl rfl rfl rfl (by kernel_rfl) Tryz.func3 (by kernel_rfl)
  (of_decide_eq_true (by kernel_rfl)) (by unfold Func.isWrapper; first | (rw [if_pos (by decide +kernel)]; kernel_rfl) | (rw [if_neg (by decide +kernel)]; exact ⟨rfl, rfl⟩))
  (fun os started H enc _ => d1c os started H enc)
theorem ptpsimRuns_holds : Rows.PtpsimRunsCardSaid :=
 Claim7.holds_tied_plain_at .later [] [.data] true (true, "b83ac5eb3a4802837b293e06b87adf639bafb3327e34187ff0ea8e2d786cd223") true
  ptpsimRuns_row (fun _ h => by cases h) (by kernel_rfl) (fun _ h => by cases h) ptpsimRuns_row_tie rfl ⟨rfl, rfl⟩ (by kernel_rfl) rfl
  (fun f fn hf hfn => by
   obtain rfl : f = 3 := Option.some.inj ((show Tryz.prog.funcNamed "timesync/timesynclaw58.PtpsimRuns" = some 3 by kernel_rfl).symm.trans hf) |>.symm
   obtain rfl : fn = Tryz.f3 := (Option.some.inj (Tryz.func3.symm.trans hfn)).symm
   exact ⟨by kernel_rfl, fun j t ht => by
    rw [Tryz.params3] at ht
    have hm : t ∈ [32, 3] := by simpa using Array.mem_of_getElem? ht
    have hall : ([32, 3].all fun u => !Tryz.prog.wantsStandIn u) = true := by kernel_rfl
    exact (show Tryz.prog.wantsStandIn t = false by simpa using List.all_eq_true.1 hall t hm)⟩)
  (by kernel_rfl)
end Go.Proofs.YtodbfpjjahpahaaGreatDoor
