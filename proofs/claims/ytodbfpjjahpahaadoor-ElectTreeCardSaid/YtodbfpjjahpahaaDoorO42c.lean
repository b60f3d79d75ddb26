/- The law ElectTree returns true for every input and leaves its arguments as they were. The inputs are those of the tied card. -/
import Derived.Test.YtodbfpjjahpahaaDoorN42
import Derived.Test.YtodbfpjjahpahaaDoorEA17
import Derived.Test.YtodbfpjjahpahaaDoorTie
import Derived.Test.YtodbfpjjahpahaaDoorCards
import Derived.SevenTiedAt
set_option linter.unusedSimpArgs false
set_option linter.unusedVariables false
set_option maxRecDepth 100000
namespace Go.Vx.L42
open Go Go.Proofs Go.Proofs.YtodbfpjjahpahaaDoor
open Go.ChangeShapes Go.WideShapes Go.RowKit Go.Deep
theorem door_met4 (os : Os) (args : Array Value) : laidMetH Tryd.prog LD ((World.doorLaid Tryd.prog 36 os).forCall (fun _ _ => 0) ⟨#[], args, []⟩).memory :=
  laidMetH_of_parts3 (fuel := 8) (laidMet_of_run' 8 (by kernel_rfl) (by kernel_rfl)) (by kernel_rfl) (by kernel_rfl)
theorem lifted4 (os : Os) (started : os.Started) (H : Type) (enc : TypeId × Value → H) :
    ReturnsInHanded {} Tryd.checked os 4 .any (fun w args => (Rows.electTreeSpec.pre enc Tryd.prog Tryd.f4 [] false w args ∧ laidMetH Tryd.prog LD w) ∧ sizedMet enc Tryd.prog Tryd.f4 (OpenSpec.ofChange Rows.electTreeSpec) false w args)
      (Rows.electTreeSpec.post enc Tryd.prog Tryd.f4 false true false false) := by
  refine law_liftL (C := Tryd.checked) own started (by kernel_rfl) Tryd.func4
    (ChangeSpec.witness_shaped (enc := enc) (C := Tryd.checked) (os := os) (X := fun w _ => laidMetH Tryd.prog LD w) false (World.doorLaid Tryd.prog 36 os) #[.agg #[.int .i64 0, .slice none 0 0, .slice none 0 0], .agg #[.int .i64 0, .slice none 0 0]] 8 rfl (World.shaped_of_RefB (by kernel_rfl) (by kernel_rfl)) (by kernel_rfl) (by kernel_rfl) (by kernel_rfl) (door_met4 os _)) laid (by kernel_rfl) (tb := 4) (by kernel_rfl) Tryd.underlying4 rfl ?_ ?_
  · intro ds hds
    rw [Tryd.params4] at hds
    match ds, hds with
    | [d0, d1], _ => rfl
  · intro W args ds p hL hA hval _
    rw [Tryd.params4] at hA hval
    obtain ⟨v0, v1, d0, d1, p0, p1, rfl, rfl, rfl, h0, h1⟩ := trodAll_two hA
    obtain ⟨b0, hv0⟩ := hval 0 27 v0 rfl rfl
    obtain ⟨x0_0, x0_1, x0_2, x0_3, x0_4, x0_5, x0_6, x0_7, x0_8, x0_9, q0⟩ := opa_net hv0 h0
    obtain ⟨b1, hv1⟩ := hval 1 53 v1 rfl rfl
    obtain ⟨x1_0, x1_1, x1_2, x1_3, x1_4, x1_5, q1⟩ := opa_ballot hv1 h1
    exact calls_of_opa (q0.app q1) (electTree x0_0 x0_1 x0_2 x0_3 x0_4 x0_5 x0_6 x0_7 x1_0 x1_1 x1_2 x1_3 x1_4) (glob_of hL)
end Go.Vx.L42
namespace Go.Proofs.YtodbfpjjahpahaaDoor
open Go.Vx.L42
theorem electTree_row : Rows.ElectTreeSaid :=
  OpenClaim.holds_of_wide 4 Tryd.f4 rfl rfl rfl rfl rfl rfl rfl ⟨rfl, rfl, rfl, rfl, rfl⟩ rfl rfl rfl rfl rfl (by kernel_rfl) Tryd.func4 (by kernel_rfl)
    (of_decide_eq_true (by kernel_rfl)) (by unfold Func.isWrapper; first | (rw [if_pos (by decide +kernel)]; kernel_rfl) | (rw [if_neg (by decide +kernel)]; exact ⟨rfl, rfl⟩))
    (fun os started H enc _ => lifted4 os started H enc)
theorem electTree_holds : Rows.ElectTreeCardSaid :=
  Claim7.holds_tied_plain_at .later [] [.data] true (true, "66f6576e13b8471a4f4d20abf3055238b349e26ff5a7051d4c73ecd19992ce04") false
    electTree_row (fun _ h => by cases h) (by kernel_rfl) (fun _ h => by cases h) electTree_row_tie rfl ⟨rfl, rfl⟩ (by kernel_rfl) rfl
    (fun f fn hf hfn => by
      obtain rfl : f = 4 := Option.some.inj ((show Tryd.prog.funcNamed "timesync/timesynclaw42.ElectTree" = some 4 by kernel_rfl).symm.trans hf) |>.symm
      obtain rfl : fn = Tryd.f4 := (Option.some.inj (Tryd.func4.symm.trans hfn)).symm
      exact ⟨by kernel_rfl, fun j t ht => by
        rw [Tryd.params4] at ht
        have hm : t ∈ [27, 53] := by simpa using Array.mem_of_getElem? ht
        have hall : ([27, 53].all fun u => !Tryd.prog.wantsStandIn u) = true := by kernel_rfl
        exact (show Tryd.prog.wantsStandIn t = false by simpa using List.all_eq_true.1 hall t hm)⟩)
    (by kernel_rfl)
end Go.Proofs.YtodbfpjjahpahaaDoor
