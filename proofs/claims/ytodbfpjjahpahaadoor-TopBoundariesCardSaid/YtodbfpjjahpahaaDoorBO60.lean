/- Lemmas of a small executor for the model, and contracts of functions, used for the law that this claim proves. No condition. -/
import Derived.Test.YtodbfpjjahpahaaDoorBN60
import Derived.Test.YtodbfpjjahpahaaDoorBX16
import Derived.Test.YtodbfpjjahpahaaDoorTie
import Derived.Test.YtodbfpjjahpahaaDoorCards
import Derived.SevenTiedAt
set_option linter.unusedSimpArgs false
set_option linter.unusedVariables false
set_option maxRecDepth 100000
namespace Go.Vx.L42.B
open Go Go.Proofs Go.Proofs.YtodbfpjjahpahaaDoor
open Go.ChangeShapes Go.WideShapes Go.RowKit Go.Deep
theorem c0p (os : Os) (args : Array Value) : laidMetH Tryd.prog LD ((World.doorLaid Tryd.prog 36 os).forCall (fun _ _ => 0) ⟨#[], args, []⟩).memory :=
 laidMetH_of_parts3 (fuel := 8) (laidMet_of_run' 8 (by kernel_rfl) (by kernel_rfl)) (by kernel_rfl) (by kernel_rfl)
theorem c59 (os : Os) (started : os.Started) (H : Type) (enc : TypeId × Value -> H) :
  ReturnsInHanded {} Tryd.checked os 3 .any (fun w args => (Rows.topBoundariesSpec.pre enc Tryd.prog Tryd.f3 [] false w args /\ laidMetH Tryd.prog LD w) /\ sizedMet enc Tryd.prog Tryd.f3 (OpenSpec.ofChange Rows.topBoundariesSpec) false w args)
   (Rows.topBoundariesSpec.post enc Tryd.prog Tryd.f3 false true false false) := by
 refine c0m (C := Tryd.checked) own started (by kernel_rfl) Tryd.func3
  (ChangeSpec.witness_shaped (enc := enc) (C := Tryd.checked) (os := os) (X := fun w _ => laidMetH Tryd.prog LD w) false (World.doorLaid Tryd.prog 36 os) #[.agg #[.int .i64 0, .slice none 0 0, .slice none 0 0]] 8 rfl (World.shaped_of_RefB (by kernel_rfl) (by kernel_rfl)) (by kernel_rfl) (by kernel_rfl) (by kernel_rfl) (c0p os _)) laid (by kernel_rfl) (tb := 4) (by kernel_rfl) Tryd.underlying4 rfl ?_ ?_
 ·intro ds hds
  rw [Tryd.params3] at hds
  match ds, hds with
  | [d0], _ => rfl
 ·intro W args ds p hL hA hval _
  rw [Tryd.params3] at hA hval
  obtain ⟨v0, d0, rfl, rfl, h0⟩ := trodAll_one hA
  obtain ⟨b0, hv0⟩ := hval 0 27 v0 rfl rfl
  obtain ⟨x0_0, x0_1, x0_2, x0_3, x0_4, x0_5, x0_6, x0_7, x0_8, x0_9, q0⟩ := c54 hv0 h0
  exact b28 q0 (b2c x0_0 x0_1 x0_2 x0_3 x0_4 x0_5 x0_6 x0_7) (c5v hL)
end Go.Vx.L42.B
namespace Go.Proofs.YtodbfpjjahpahaaDoor
open Go.Vx.L42.B
theorem topBoundaries_row : Rows.TopBoundariesSaid :=
 OpenClaim.holds_of_wide 3 Tryd.f3 rfl rfl rfl rfl rfl rfl rfl ⟨rfl, rfl, rfl, rfl, rfl⟩ rfl rfl rfl rfl rfl (by kernel_rfl) Tryd.func3 (by kernel_rfl)
  (of_decide_eq_true (by kernel_rfl)) (by unfold Func.isWrapper; first | (rw [if_pos (by decide +kernel)]; kernel_rfl) | (rw [if_neg (by decide +kernel)]; exact ⟨rfl, rfl⟩))
  (fun os started H enc _ => c59 os started H enc)
theorem topBoundaries_holds : Rows.TopBoundariesCardSaid :=
 Claim7.holds_tied_plain_at .later [] [.data, .data] true (true, "66f6576e13b8471a4f4d20abf3055238b349e26ff5a7051d4c73ecd19992ce04") false
  topBoundaries_row (fun _ h => by cases h) (by kernel_rfl) (fun _ h => by cases h) topBoundaries_row_tie rfl ⟨rfl, rfl⟩ (by kernel_rfl) rfl
  (fun f fn hf hfn => by
   obtain rfl : f = 3 := Option.some.inj ((show Tryd.prog.funcNamed "timesync/timesynctop.TopBoundaries" = some 3 by kernel_rfl).symm.trans hf) |>.symm
   obtain rfl : fn = Tryd.f3 := (Option.some.inj (Tryd.func3.symm.trans hfn)).symm
   exact ⟨by kernel_rfl, fun j t ht => by
    rw [Tryd.params3] at ht
    have hm : t ∈ [27] := by simpa using Array.mem_of_getElem? ht
    have hall : ([27].all fun u => !Tryd.prog.wantsStandIn u) = true := by kernel_rfl
    exact (show Tryd.prog.wantsStandIn t = false by simpa using List.all_eq_true.1 hall t hm)⟩)
  (by kernel_rfl)
end Go.Proofs.YtodbfpjjahpahaaDoor
