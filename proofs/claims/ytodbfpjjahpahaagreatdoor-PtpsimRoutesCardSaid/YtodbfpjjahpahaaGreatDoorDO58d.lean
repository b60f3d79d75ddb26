/- The law PtpsimRoutes returns true for every scene, node and instant and leaves its arguments as they were. No condition. -/
import Derived.Test.YtodbfpjjahpahaaGreatDoorDN58w
import Derived.Test.YtodbfpjjahpahaaGreatDoorDRBB
import Derived.Test.YtodbfpjjahpahaaGreatDoorTie
import Derived.Test.YtodbfpjjahpahaaGreatDoorCards
import Derived.SevenTiedAt
set_option linter.unusedSimpArgs false
set_option linter.unusedVariables false
set_option maxRecDepth 100000
namespace Go.Vx.L58
open Go Go.Proofs Go.Proofs.YtodbfpjjahpahaaGreatDoor
open Go.ChangeShapes Go.WideShapes Go.RowKit Go.Deep
theorem door_met6 (os : Os) (args : Array Value) : laidMetH Tryz.prog LD ((World.doorLaid Tryz.prog 36 os).forCall (fun _ _ => 0) ⟨#[], args, []⟩).memory :=
 laidMetH_of_parts3 (fuel := 8) (laidMet_of_run' 8 (by kernel_rfl) (by kernel_rfl)) (by kernel_rfl) (by kernel_rfl)
theorem lifted6 (os : Os) (started : os.Started) (H : Type) (enc : TypeId × Value → H) :
  ReturnsInHanded {} Tryz.checked os 6 .any (fun w args => (Rows.ptpsimRoutesSpec.pre enc Tryz.prog Tryz.f6 [] false w args ∧ laidMetH Tryz.prog LD w) ∧ sizedMet enc Tryz.prog Tryz.f6 (OpenSpec.ofChange Rows.ptpsimRoutesSpec) false w args)
   (Rows.ptpsimRoutesSpec.post enc Tryz.prog Tryz.f6 false true false false) := by
 refine law_liftL (C := Tryz.checked) own started (by kernel_rfl) Tryz.func6
  (ChangeSpec.witness_shaped (enc := enc) (C := Tryz.checked) (os := os) (X := fun w _ => laidMetH Tryz.prog LD w) false (World.doorLaid Tryz.prog 36 os) #[.agg #[.int .i64 0, .slice none 0 0, .slice none 0 0, .slice none 0 0, .slice none 0 0, .slice none 0 0, .slice none 0 0, .slice none 0 0], .int .i64 0, .int .i64 0] 8 rfl (World.shaped_of_RefB (by kernel_rfl) (by kernel_rfl)) (by kernel_rfl) (by kernel_rfl) (by kernel_rfl) (door_met6 os _)) laid (by kernel_rfl) (tb := 4) (by kernel_rfl) Tryz.underlying4 rfl ?_ ?_
 ·intro ds hds
  rw [Tryz.params6] at hds
  match ds, hds with
  | [d0, d1, d2], _ => rfl
 ·intro W args ds p hL hA hval _
  rw [Tryz.params6] at hA hval
  obtain ⟨v0, v1, v2, d0, d1, d2, p0, p1, p2, rfl, rfl, rfl, h0, h1, h2⟩ := trodAll_three hA
  obtain ⟨b0, hv0⟩ := hval 0 32 v0 rfl rfl
  obtain ⟨x0_0, x0_1, x0_2, x0_3, x0_4, x0_5, x0_6, x0_7, x0_8, x0_9, q0⟩ := opa_scene hv0 h0
  obtain ⟨b1, hv1⟩ := hval 1 3 v1 rfl rfl
  obtain ⟨n1, rfl, rfl, _, w1⟩ := open_int Tryz.underlying3 hv1 h1
  obtain ⟨b2, hv2⟩ := hval 2 3 v2 rfl rfl
  obtain ⟨n2, rfl, rfl, _, w2⟩ := open_int Tryz.underlying3 hv2 h2
  exact calls_of_opa ((q0.app (opa_int (k := .i64) (z := n1))).app (opa_int (k := .i64) (z := n2))) (ptpsimRoutes x0_0 x0_1 n1 n2) (glob_of hL)
end Go.Vx.L58
namespace Go.Proofs.YtodbfpjjahpahaaGreatDoor
open Go.Vx.L58
theorem ptpsimRoutes_row : Rows.PtpsimRoutesSaid :=
 OpenClaim.holds_of_wide 6 Tryz.f6 rfl rfl rfl rfl rfl rfl rfl ⟨rfl, rfl, rfl, rfl, rfl⟩ rfl rfl rfl rfl rfl (by kernel_rfl) Tryz.func6 (by kernel_rfl)
  (of_decide_eq_true (by kernel_rfl)) (by unfold Func.isWrapper; first | (rw [if_pos (by decide +kernel)]; kernel_rfl) | (rw [if_neg (by decide +kernel)]; exact ⟨rfl, rfl⟩))
  (fun os started H enc _ => lifted6 os started H enc)
theorem ptpsimRoutes_holds : Rows.PtpsimRoutesCardSaid :=
 Claim7.holds_tied_plain_at .later [] [.data] true (true, "b83ac5eb3a4802837b293e06b87adf639bafb3327e34187ff0ea8e2d786cd223") true
  ptpsimRoutes_row (fun _ h => by cases h) (by kernel_rfl) (fun _ h => by cases h) ptpsimRoutes_row_tie rfl ⟨rfl, rfl⟩ (by kernel_rfl) rfl
  (fun f fn hf hfn => by
   obtain rfl : f = 6 := Option.some.inj ((show Tryz.prog.funcNamed "timesync/timesynclaw58.PtpsimRoutes" = some 6 by kernel_rfl).symm.trans hf) |>.symm
   obtain rfl : fn = Tryz.f6 := (Option.some.inj (Tryz.func6.symm.trans hfn)).symm
   exact ⟨by kernel_rfl, fun j t ht => by
    rw [Tryz.params6] at ht
    have hm : t ∈ [32, 3, 3] := by simpa using Array.mem_of_getElem? ht
    have hall : ([32, 3, 3].all fun u => !Tryz.prog.wantsStandIn u) = true := by kernel_rfl
    exact (show Tryz.prog.wantsStandIn t = false by simpa using List.all_eq_true.1 hall t hm)⟩)
  (by kernel_rfl)
end Go.Proofs.YtodbfpjjahpahaaGreatDoor
