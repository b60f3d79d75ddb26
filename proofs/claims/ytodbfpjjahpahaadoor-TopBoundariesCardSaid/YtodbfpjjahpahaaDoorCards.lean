/-
  DERIVED. GIVEN WITH THE SEED: THE CARDS: each row of YtodbfpjjahpahaaDoorRows.lean that lists a variable, with what it lists TIED to the program's text (the seventh form; the later family's looks); each row that meets fmt, with fmt's text TOLD by the authors' own Lean function (tested against real Go, not proved from fmt's source: count such statements apart). THE CARD IS WHAT COUNTS. Prove the row's statement (the work); the ties are given (YtodbfpjjahpahaaDoorTie.lean); close each card by the builder's one call (the guide's Derived/Test/ToyasCard.lean, 'card_holds'). Laid BY PROGRAM, IN A SANDBOX (cutbox-door.mjs). By AI agents, Wed Nov 11 2026. No macro, syntax, notation, axiom, sorry.
-/
import Derived.Test.YtodbfpjjahpahaaDoorRows
import GoSem.ClaimSeven
namespace Go.Proofs.YtodbfpjjahpahaaDoor
namespace Rows

/-- THE TIED CARD OF 'timesynctop.TopBoundaries'. -/
def topBoundariesCard : Claim7 := { stood := { row := topBoundariesRow, standIns := [], harness := (true, "66f6576e13b8471a4f4d20abf3055238b349e26ff5a7051d4c73ecd19992ce04"), looks := false }, kinds := [], alts := [], laidByText := true, laidKinds := [.data, .data], laidTests := true, laidLooks := .later }
def TopBoundariesCardSaid : Prop := Claim7.holds Tryd.pinned (.plain (OpenSpec.ofChange topBoundariesSpec)) topBoundariesCard

/-- THE TIED CARD OF 'timesynclaw42.ElectTree'. -/
def electTreeCard : Claim7 := { stood := { row := electTreeRow, standIns := [], harness := (true, "66f6576e13b8471a4f4d20abf3055238b349e26ff5a7051d4c73ecd19992ce04"), looks := false }, kinds := [], alts := [], laidByText := true, laidKinds := [.data], laidTests := true, laidLooks := .later }
def ElectTreeCardSaid : Prop := Claim7.holds Tryd.pinned (.plain (OpenSpec.ofChange electTreeSpec)) electTreeCard

/-- THE TIED CARD OF 'timesynclaw42.ElectStarts'. -/
def electStartsCard : Claim7 := { stood := { row := electStartsRow, standIns := [], harness := (true, "66f6576e13b8471a4f4d20abf3055238b349e26ff5a7051d4c73ecd19992ce04"), looks := false }, kinds := [], alts := [], laidByText := true, laidKinds := [.data], laidTests := true, laidLooks := .later }
def ElectStartsCardSaid : Prop := Claim7.holds Tryd.pinned (.plain (OpenSpec.ofChange electStartsSpec)) electStartsCard

/-- THE TIED CARD OF 'timesynclaw42.ElectOrders'. -/
def electOrdersCard : Claim7 := { stood := { row := electOrdersRow, standIns := [], harness := (true, "66f6576e13b8471a4f4d20abf3055238b349e26ff5a7051d4c73ecd19992ce04"), looks := false }, kinds := [], alts := [], laidByText := true, laidKinds := [.data], laidTests := true, laidLooks := .later }
def ElectOrdersCardSaid : Prop := Claim7.holds Tryd.pinned (.plain (OpenSpec.ofChange electOrdersSpec)) electOrdersCard

/-- THE TIED CARD OF 'timesynclaw42.ElectSettles'. -/
def electSettlesCard : Claim7 := { stood := { row := electSettlesRow, standIns := [], harness := (true, "66f6576e13b8471a4f4d20abf3055238b349e26ff5a7051d4c73ecd19992ce04"), looks := false }, kinds := [], alts := [], laidByText := true, laidKinds := [.data], laidTests := true, laidLooks := .later }
def ElectSettlesCardSaid : Prop := Claim7.holds Tryd.pinned (.plain (OpenSpec.ofChange electSettlesSpec)) electSettlesCard

/-- THE SECOND FORM's CARD OF 'timesynctop.TopBoundaries'. -/
def topBoundariesUptoCard : Claim7 := { stood := { row := topBoundariesUptoRow, standIns := [], harness := (true, "66f6576e13b8471a4f4d20abf3055238b349e26ff5a7051d4c73ecd19992ce04"), looks := false }, kinds := [], alts := [], laidByText := true, laidKinds := [.data, .data], laidTests := true, laidLooks := .later }
def TopBoundariesUptoCardSaid : Prop := Claim7.holds Tryd.pinned (.plain (OpenSpec.upto topBoundariesSpec)) topBoundariesUptoCard

/-- THE SECOND FORM's CARD OF 'timesynclaw42.ElectTree'. -/
def electTreeUptoCard : Claim7 := { stood := { row := electTreeUptoRow, standIns := [], harness := (true, "66f6576e13b8471a4f4d20abf3055238b349e26ff5a7051d4c73ecd19992ce04"), looks := false }, kinds := [], alts := [], laidByText := true, laidKinds := [.data], laidTests := true, laidLooks := .later }
def ElectTreeUptoCardSaid : Prop := Claim7.holds Tryd.pinned (.plain (OpenSpec.upto electTreeSpec)) electTreeUptoCard

/-- THE SECOND FORM's CARD OF 'timesynclaw42.ElectStarts'. -/
def electStartsUptoCard : Claim7 := { stood := { row := electStartsUptoRow, standIns := [], harness := (true, "66f6576e13b8471a4f4d20abf3055238b349e26ff5a7051d4c73ecd19992ce04"), looks := false }, kinds := [], alts := [], laidByText := true, laidKinds := [.data], laidTests := true, laidLooks := .later }
def ElectStartsUptoCardSaid : Prop := Claim7.holds Tryd.pinned (.plain (OpenSpec.upto electStartsSpec)) electStartsUptoCard

/-- THE SECOND FORM's CARD OF 'timesynclaw42.ElectOrders'. -/
def electOrdersUptoCard : Claim7 := { stood := { row := electOrdersUptoRow, standIns := [], harness := (true, "66f6576e13b8471a4f4d20abf3055238b349e26ff5a7051d4c73ecd19992ce04"), looks := false }, kinds := [], alts := [], laidByText := true, laidKinds := [.data], laidTests := true, laidLooks := .later }
def ElectOrdersUptoCardSaid : Prop := Claim7.holds Tryd.pinned (.plain (OpenSpec.upto electOrdersSpec)) electOrdersUptoCard

/-- THE SECOND FORM's CARD OF 'timesynclaw42.ElectSettles'. -/
def electSettlesUptoCard : Claim7 := { stood := { row := electSettlesUptoRow, standIns := [], harness := (true, "66f6576e13b8471a4f4d20abf3055238b349e26ff5a7051d4c73ecd19992ce04"), looks := false }, kinds := [], alts := [], laidByText := true, laidKinds := [.data], laidTests := true, laidLooks := .later }
def ElectSettlesUptoCardSaid : Prop := Claim7.holds Tryd.pinned (.plain (OpenSpec.upto electSettlesSpec)) electSettlesUptoCard
end Rows
end Go.Proofs.YtodbfpjjahpahaaDoor
