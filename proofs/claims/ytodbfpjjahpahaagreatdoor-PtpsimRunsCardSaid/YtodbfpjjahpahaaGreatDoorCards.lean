/-
  DERIVED. GIVEN WITH THE SEED: THE CARDS: each row of YtodbfpjjahpahaaGreatDoorRows.lean that lists a variable, with what it lists TIED to the program's text (the seventh form; the later family's looks); each row that meets fmt, with fmt's text TOLD by the authors' own Lean function (tested against real Go, not proved from fmt's source: count such statements apart). THE CARD IS WHAT COUNTS. Prove the row's statement (the work); the ties are given (YtodbfpjjahpahaaGreatDoorTie.lean); close each card by the builder's one call (the guide's Derived/Test/ToyasCard.lean, 'card_holds'). Laid BY PROGRAM, IN A SANDBOX (cutbox-door.mjs). By AI agents, Wed Nov 11 2026. No macro, syntax, notation, axiom, sorry.
-/
import Derived.Test.YtodbfpjjahpahaaGreatDoorRows
import GoSem.ClaimSeven
namespace Go.Proofs.YtodbfpjjahpahaaGreatDoor
namespace Rows

/-- THE TIED CARD OF 'timesynclaw58.PtpsimRuns'. -/
def ptpsimRunsCard : Claim7 := { stood := { row := ptpsimRunsRow, standIns := [], harness := (true, "b83ac5eb3a4802837b293e06b87adf639bafb3327e34187ff0ea8e2d786cd223"), looks := true }, kinds := [], alts := [], laidByText := true, laidKinds := [.data], laidTests := true, laidLooks := .later }
def PtpsimRunsCardSaid : Prop := Claim7.holds Tryz.pinned (.plain (OpenSpec.ofChange ptpsimRunsSpec)) ptpsimRunsCard

/-- THE TIED CARD OF 'timesynclaw58.PtpsimPhases'. -/
def ptpsimPhasesCard : Claim7 := { stood := { row := ptpsimPhasesRow, standIns := [], harness := (true, "b83ac5eb3a4802837b293e06b87adf639bafb3327e34187ff0ea8e2d786cd223"), looks := true }, kinds := [], alts := [], laidByText := true, laidKinds := [.data], laidTests := true, laidLooks := .later }
def PtpsimPhasesCardSaid : Prop := Claim7.holds Tryz.pinned (.plain (OpenSpec.ofChange ptpsimPhasesSpec)) ptpsimPhasesCard

/-- THE TIED CARD OF 'timesynclaw58.PtpsimExact'. -/
def ptpsimExactCard : Claim7 := { stood := { row := ptpsimExactRow, standIns := [], harness := (true, "b83ac5eb3a4802837b293e06b87adf639bafb3327e34187ff0ea8e2d786cd223"), looks := true }, kinds := [], alts := [], laidByText := true, laidKinds := [.data], laidTests := true, laidLooks := .later }
def PtpsimExactCardSaid : Prop := Claim7.holds Tryz.pinned (.plain (OpenSpec.ofChange ptpsimExactSpec)) ptpsimExactCard

/-- THE TIED CARD OF 'timesynclaw58.PtpsimRoutes'. -/
def ptpsimRoutesCard : Claim7 := { stood := { row := ptpsimRoutesRow, standIns := [], harness := (true, "b83ac5eb3a4802837b293e06b87adf639bafb3327e34187ff0ea8e2d786cd223"), looks := true }, kinds := [], alts := [], laidByText := true, laidKinds := [.data], laidTests := true, laidLooks := .later }
def PtpsimRoutesCardSaid : Prop := Claim7.holds Tryz.pinned (.plain (OpenSpec.ofChange ptpsimRoutesSpec)) ptpsimRoutesCard

/-- THE TIED CARD OF 'timesynclaw58.PtpsimTree'. -/
def ptpsimTreeCard : Claim7 := { stood := { row := ptpsimTreeRow, standIns := [], harness := (true, "b83ac5eb3a4802837b293e06b87adf639bafb3327e34187ff0ea8e2d786cd223"), looks := true }, kinds := [], alts := [], laidByText := true, laidKinds := [.data], laidTests := true, laidLooks := .later }
def PtpsimTreeCardSaid : Prop := Claim7.holds Tryz.pinned (.plain (OpenSpec.ofChange ptpsimTreeSpec)) ptpsimTreeCard

/-- THE SECOND FORM's CARD OF 'timesynclaw58.PtpsimRuns'. -/
def ptpsimRunsUptoCard : Claim7 := { stood := { row := ptpsimRunsUptoRow, standIns := [], harness := (true, "b83ac5eb3a4802837b293e06b87adf639bafb3327e34187ff0ea8e2d786cd223"), looks := true }, kinds := [], alts := [], laidByText := true, laidKinds := [.data], laidTests := true, laidLooks := .later }
def PtpsimRunsUptoCardSaid : Prop := Claim7.holds Tryz.pinned (.plain (OpenSpec.upto ptpsimRunsSpec)) ptpsimRunsUptoCard

/-- THE SECOND FORM's CARD OF 'timesynclaw58.PtpsimPhases'. -/
def ptpsimPhasesUptoCard : Claim7 := { stood := { row := ptpsimPhasesUptoRow, standIns := [], harness := (true, "b83ac5eb3a4802837b293e06b87adf639bafb3327e34187ff0ea8e2d786cd223"), looks := true }, kinds := [], alts := [], laidByText := true, laidKinds := [.data], laidTests := true, laidLooks := .later }
def PtpsimPhasesUptoCardSaid : Prop := Claim7.holds Tryz.pinned (.plain (OpenSpec.upto ptpsimPhasesSpec)) ptpsimPhasesUptoCard

/-- THE SECOND FORM's CARD OF 'timesynclaw58.PtpsimExact'. -/
def ptpsimExactUptoCard : Claim7 := { stood := { row := ptpsimExactUptoRow, standIns := [], harness := (true, "b83ac5eb3a4802837b293e06b87adf639bafb3327e34187ff0ea8e2d786cd223"), looks := true }, kinds := [], alts := [], laidByText := true, laidKinds := [.data], laidTests := true, laidLooks := .later }
def PtpsimExactUptoCardSaid : Prop := Claim7.holds Tryz.pinned (.plain (OpenSpec.upto ptpsimExactSpec)) ptpsimExactUptoCard

/-- THE SECOND FORM's CARD OF 'timesynclaw58.PtpsimRoutes'. -/
def ptpsimRoutesUptoCard : Claim7 := { stood := { row := ptpsimRoutesUptoRow, standIns := [], harness := (true, "b83ac5eb3a4802837b293e06b87adf639bafb3327e34187ff0ea8e2d786cd223"), looks := true }, kinds := [], alts := [], laidByText := true, laidKinds := [.data], laidTests := true, laidLooks := .later }
def PtpsimRoutesUptoCardSaid : Prop := Claim7.holds Tryz.pinned (.plain (OpenSpec.upto ptpsimRoutesSpec)) ptpsimRoutesUptoCard

/-- THE SECOND FORM's CARD OF 'timesynclaw58.PtpsimTree'. -/
def ptpsimTreeUptoCard : Claim7 := { stood := { row := ptpsimTreeUptoRow, standIns := [], harness := (true, "b83ac5eb3a4802837b293e06b87adf639bafb3327e34187ff0ea8e2d786cd223"), looks := true }, kinds := [], alts := [], laidByText := true, laidKinds := [.data], laidTests := true, laidLooks := .later }
def PtpsimTreeUptoCardSaid : Prop := Claim7.holds Tryz.pinned (.plain (OpenSpec.upto ptpsimTreeSpec)) ptpsimTreeUptoCard
end Rows
end Go.Proofs.YtodbfpjjahpahaaGreatDoor
