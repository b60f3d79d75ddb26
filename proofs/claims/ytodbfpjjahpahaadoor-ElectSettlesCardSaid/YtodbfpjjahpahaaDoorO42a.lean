/- The law ElectSettles returns true for every input and leaves its arguments as they were. The inputs are those of the tied card. -/
import Derived.Test.YtodbfpjjahpahaaDoorN42
import Derived.Test.YtodbfpjjahpahaaDoorEA15
import Derived.Test.YtodbfpjjahpahaaDoorTie
import Derived.Test.YtodbfpjjahpahaaDoorCards
import Derived.SevenTiedAt
set_option linter.unusedSimpArgs false
set_option linter.unusedVariables false
set_option maxRecDepth 100000
namespace Go.Vx.L42
open Go Go.Proofs Go.Proofs.YtodbfpjjahpahaaDoor
open Go.ChangeShapes Go.WideShapes Go.RowKit Go.Deep
theorem door_met7 (os : Os) (args : Array Value) : laidMetH Tryd.prog LD ((World.doorLaid Tryd.prog 36 os).forCall (fun _ _ => 0) ⟨#[], args, []⟩).memory :=
  laidMetH_of_parts3 (fuel := 8) (laidMet_of_run' 8 (by kernel_rfl) (by kernel_rfl)) (by kernel_rfl) (by kernel_rfl)
theorem lifted7 (os : Os) (started : os.Started) (H : Type) (enc : TypeId × Value → H) :
    ReturnsInHanded {} Tryd.checked os 7 .any (fun w args => (Rows.electSettlesSpec.pre enc Tryd.prog Tryd.f7 [] false w args ∧ laidMetH Tryd.prog LD w) ∧ sizedMet enc Tryd.prog Tryd.f7 (OpenSpec.ofChange Rows.electSettlesSpec) false w args)
      (Rows.electSettlesSpec.post enc Tryd.prog Tryd.f7 false true false false) := by
  refine law_liftL (C := Tryd.checked) own started (by kernel_rfl) Tryd.func7
    (ChangeSpec.witness_shaped (enc := enc) (C := Tryd.checked) (os := os) (X := fun w _ => laidMetH Tryd.prog LD w) false (World.doorLaid Tryd.prog 36 os) #[.agg #[.int .i64 0, .slice none 0 0, .slice none 0 0], .agg #[.int .i64 0, .slice none 0 0], .int .u8 0] 8 rfl (World.shaped_of_RefB (by kernel_rfl) (by kernel_rfl)) (by kernel_rfl) (by kernel_rfl) (by kernel_rfl) (door_met7 os _)) laid (by kernel_rfl) (tb := 4) (by kernel_rfl) Tryd.underlying4 rfl ?_ ?_
  · intro ds hds
    rw [Tryd.params7] at hds
    match ds, hds with
    | [d0, d1, d2], _ => rfl
  · intro W args ds p hL hA hval _
    rw [Tryd.params7] at hA hval
    obtain ⟨v0, v1, v2, d0, d1, d2, p0, p1, p2, rfl, rfl, rfl, h0, h1, h2⟩ := trodAll_three hA
    obtain ⟨b0, hv0⟩ := hval 0 27 v0 rfl rfl
    obtain ⟨x0_0, x0_1, x0_2, x0_3, x0_4, x0_5, x0_6, x0_7, x0_8, x0_9, q0⟩ := opa_net hv0 h0
    obtain ⟨b1, hv1⟩ := hval 1 53 v1 rfl rfl
    obtain ⟨x1_0, x1_1, x1_2, x1_3, x1_4, x1_5, q1⟩ := opa_ballot hv1 h1
    obtain ⟨b2, hv2⟩ := hval 2 5 v2 rfl rfl
    obtain ⟨n2, rfl, rfl, _, w2⟩ := open_int Tryd.underlying5 hv2 h2
    exact calls_of_opa ((q0.app q1).app (opa_int (k := .u8) (z := n2))) (S5.electSettles x0_0 x0_1 x0_2 x0_3 x0_4 x0_5 x0_6 x0_7 x1_0 x1_1 x1_2 x1_3 x1_4 n2 (wfk w2 rfl rfl)) (glob_of hL)
end Go.Vx.L42
namespace Go.Proofs.YtodbfpjjahpahaaDoor
open Go.Vx.L42
theorem electSettles_row : Rows.ElectSettlesSaid :=
  OpenClaim.holds_of_wide 7 Tryd.f7 rfl rfl rfl rfl rfl rfl rfl ⟨rfl, rfl, rfl, rfl, rfl⟩ rfl rfl rfl rfl rfl (by kernel_rfl) Tryd.func7 (by kernel_rfl)
    (of_decide_eq_true (by kernel_rfl)) (by unfold Func.isWrapper; first | (rw [if_pos (by decide +kernel)]; kernel_rfl) | (rw [if_neg (by decide +kernel)]; exact ⟨rfl, rfl⟩))
    (fun os started H enc _ => lifted7 os started H enc)
theorem electSettles_holds : Rows.ElectSettlesCardSaid :=
  Claim7.holds_tied_plain_at .later [] [.data] true (true, "66f6576e13b8471a4f4d20abf3055238b349e26ff5a7051d4c73ecd19992ce04") false
    electSettles_row (fun _ h => by cases h) (by kernel_rfl) (fun _ h => by cases h) electSettles_row_tie rfl ⟨rfl, rfl⟩ (by kernel_rfl) rfl
    (fun f fn hf hfn => by
      obtain rfl : f = 7 := Option.some.inj ((show Tryd.prog.funcNamed "timesync/timesynclaw42.ElectSettles" = some 7 by kernel_rfl).symm.trans hf) |>.symm
      obtain rfl : fn = Tryd.f7 := (Option.some.inj (Tryd.func7.symm.trans hfn)).symm
      exact ⟨by kernel_rfl, fun j t ht => by
        rw [Tryd.params7] at ht
        have hm : t ∈ [27, 53, 5] := by simpa using Array.mem_of_getElem? ht
        have hall : ([27, 53, 5].all fun u => !Tryd.prog.wantsStandIn u) = true := by kernel_rfl
        exact (show Tryd.prog.wantsStandIn t = false by simpa using List.all_eq_true.1 hall t hm)⟩)
    (by kernel_rfl)
end Go.Proofs.YtodbfpjjahpahaaDoor
