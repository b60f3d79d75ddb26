/-
  NARROWER THAN 'FOR EVERY INPUT', by the rows' own cells (each row's printed sentence says how): PtpsimRuns: laid · PtpsimPhases: laid · PtpsimExact: laid · PtpsimRoutes: laid · PtpsimTree: laid.
  DERIVED. THE GIVEN ROWS OF THIS SEAT. 5 by the template 'for every input the law returns true; each argument reads behind the call as it read before'; 0 by the template 'total and deterministic' (their statements: YtodbfpjjahpahaaGreatDoorTotals.lean).
  GIVEN WITH THE SEED: the statements are not yours to turn. If you find one false, say at which input.
  Laid BY PROGRAM, IN A SANDBOX (cutbox-rows.mjs): the forced cells as the released guide's own fill.sh prints them over the translation 471e9ee3bbe7a0a3… (all of the seat's roots in one cut). By AI agents, Wed Nov 11 2026. No macro, syntax, notation, axiom, sorry.
-/
import Derived.Test.YtodbfpjjahpahaaGreatDoorChecked
import GoSem.Claim
import GoSem.ClaimJoined
import GoSem.ClaimMapViews
import Derived.JoinedTies
import Derived.KernelRfl
namespace Go.Proofs.YtodbfpjjahpahaaGreatDoor
/- THE CELL 'sum', in the pinned program and in every row, IS THE sha256 OF THE DUMP (.gsa) THAT YtodbfpjjahpahaaGreatDoorProg.lean LOADS. Nothing in Lean hashes anything: it is a label: what it is worth is what the hold of that sum in a sandbox is worth. -/
noncomputable def Tryz.pinned : Pinned := { name := "ytodbfpjjahpahaagreatdoor", sum := "471e9ee3bbe7a0a3e341be9940e3e3694bd26cbb6f3c5217e18848abbc3067a2", checked := Tryz.checked }
namespace Rows
def none {H : Type} : Left H := { results := [], args := [] }

/- WHAT THE LISTED PACKAGE-LEVEL VARIABLES READ AS WHEN THE CALL BEGINS. Each datum BY PROGRAM (the guide's laid-datum.mjs) off the statement by which the dump's own 'gosem.cut.vars' lays the variable. In a bare row this is a premise. The card (YtodbfpjjahpahaaGreatDoorCards.lean) ties it to the program's text. -/
def laid_timesync_dataset_fields {H : Type} : DataW H := .agg [.lit (.int .i64 0), .lit (.int .i64 1), .lit (.int .i64 2), .lit (.int .i64 3), .lit (.int .i64 4), .lit (.int .i64 5), .lit (.int .i64 6), .lit (.int .i64 7), .lit (.int .i64 8), .lit (.int .i64 9), .lit (.int .i64 10), .lit (.int .i64 7), .lit (.int .i64 10), .lit (.int .i64 8)]

/-- 'timesynclaw58.PtpsimRuns': WHATEVER THE INPUT: true; the input reads as it did. -/
def ptpsimRunsSpec : ChangeSpec := { name := "ptpsimRuns", fn := fun _ => fun
  | [d1, d2] => { results := [.lit (.bool true)], args := [d1, d2] }
  | _ => none }
def ptpsimRunsRow : OpenClaim := { program := "ytodbfpjjahpahaagreatdoor", sum := "471e9ee3bbe7a0a3e341be9940e3e3694bd26cbb6f3c5217e18848abbc3067a2", func := "timesync/timesynclaw58.PtpsimRuns", spec := "ptpsimRuns", unfollowed := true, recurses := true, named := ["timesync/dataset.fields"], plainKeys := false, apart := false, laid := [("timesync/dataset.fields", laid_timesync_dataset_fields)] }
def PtpsimRunsSaid : Prop := ptpsimRunsRow.holds Tryz.pinned (OpenSpec.ofChange ptpsimRunsSpec)

/-- ITS FALSE NEIGHBOUR: 'it returns false'. Refute it at one input. -/
def ptpsimRunsWrong : ChangeSpec := { name := "ptpsimRuns", fn := fun _ => fun
  | [d1, d2] => { results := [.lit (.bool false)], args := [d1, d2] }
  | _ => none }
def PtpsimRunsWrongFalsely : Prop := ptpsimRunsRow.holds Tryz.pinned (OpenSpec.ofChange ptpsimRunsWrong)

/-- 'timesynclaw58.PtpsimPhases': WHATEVER THE INPUT: true; the input reads as it did. -/
def ptpsimPhasesSpec : ChangeSpec := { name := "ptpsimPhases", fn := fun _ => fun
  | [d1, d2, d3] => { results := [.lit (.bool true)], args := [d1, d2, d3] }
  | _ => none }
def ptpsimPhasesRow : OpenClaim := { program := "ytodbfpjjahpahaagreatdoor", sum := "471e9ee3bbe7a0a3e341be9940e3e3694bd26cbb6f3c5217e18848abbc3067a2", func := "timesync/timesynclaw58.PtpsimPhases", spec := "ptpsimPhases", unfollowed := true, recurses := true, named := ["timesync/dataset.fields"], plainKeys := false, apart := false, laid := [("timesync/dataset.fields", laid_timesync_dataset_fields)] }
def PtpsimPhasesSaid : Prop := ptpsimPhasesRow.holds Tryz.pinned (OpenSpec.ofChange ptpsimPhasesSpec)

/-- ITS FALSE NEIGHBOUR: 'it returns false'. Refute it at one input. -/
def ptpsimPhasesWrong : ChangeSpec := { name := "ptpsimPhases", fn := fun _ => fun
  | [d1, d2, d3] => { results := [.lit (.bool false)], args := [d1, d2, d3] }
  | _ => none }
def PtpsimPhasesWrongFalsely : Prop := ptpsimPhasesRow.holds Tryz.pinned (OpenSpec.ofChange ptpsimPhasesWrong)

/-- 'timesynclaw58.PtpsimExact': WHATEVER THE INPUT: true; the input reads as it did. -/
def ptpsimExactSpec : ChangeSpec := { name := "ptpsimExact", fn := fun _ => fun
  | [d1, d2] => { results := [.lit (.bool true)], args := [d1, d2] }
  | _ => none }
def ptpsimExactRow : OpenClaim := { program := "ytodbfpjjahpahaagreatdoor", sum := "471e9ee3bbe7a0a3e341be9940e3e3694bd26cbb6f3c5217e18848abbc3067a2", func := "timesync/timesynclaw58.PtpsimExact", spec := "ptpsimExact", unfollowed := true, recurses := true, named := ["timesync/dataset.fields"], plainKeys := false, apart := false, laid := [("timesync/dataset.fields", laid_timesync_dataset_fields)] }
def PtpsimExactSaid : Prop := ptpsimExactRow.holds Tryz.pinned (OpenSpec.ofChange ptpsimExactSpec)

/-- ITS FALSE NEIGHBOUR: 'it returns false'. Refute it at one input. -/
def ptpsimExactWrong : ChangeSpec := { name := "ptpsimExact", fn := fun _ => fun
  | [d1, d2] => { results := [.lit (.bool false)], args := [d1, d2] }
  | _ => none }
def PtpsimExactWrongFalsely : Prop := ptpsimExactRow.holds Tryz.pinned (OpenSpec.ofChange ptpsimExactWrong)

/-- 'timesynclaw58.PtpsimRoutes': WHATEVER THE INPUT: true; the input reads as it did. -/
def ptpsimRoutesSpec : ChangeSpec := { name := "ptpsimRoutes", fn := fun _ => fun
  | [d1, d2, d3] => { results := [.lit (.bool true)], args := [d1, d2, d3] }
  | _ => none }
def ptpsimRoutesRow : OpenClaim := { program := "ytodbfpjjahpahaagreatdoor", sum := "471e9ee3bbe7a0a3e341be9940e3e3694bd26cbb6f3c5217e18848abbc3067a2", func := "timesync/timesynclaw58.PtpsimRoutes", spec := "ptpsimRoutes", unfollowed := true, recurses := true, named := ["timesync/dataset.fields"], plainKeys := false, apart := false, laid := [("timesync/dataset.fields", laid_timesync_dataset_fields)] }
def PtpsimRoutesSaid : Prop := ptpsimRoutesRow.holds Tryz.pinned (OpenSpec.ofChange ptpsimRoutesSpec)

/-- ITS FALSE NEIGHBOUR: 'it returns false'. Refute it at one input. -/
def ptpsimRoutesWrong : ChangeSpec := { name := "ptpsimRoutes", fn := fun _ => fun
  | [d1, d2, d3] => { results := [.lit (.bool false)], args := [d1, d2, d3] }
  | _ => none }
def PtpsimRoutesWrongFalsely : Prop := ptpsimRoutesRow.holds Tryz.pinned (OpenSpec.ofChange ptpsimRoutesWrong)

/-- 'timesynclaw58.PtpsimTree': WHATEVER THE INPUT: true; the input reads as it did. -/
def ptpsimTreeSpec : ChangeSpec := { name := "ptpsimTree", fn := fun _ => fun
  | [d1, d2] => { results := [.lit (.bool true)], args := [d1, d2] }
  | _ => none }
def ptpsimTreeRow : OpenClaim := { program := "ytodbfpjjahpahaagreatdoor", sum := "471e9ee3bbe7a0a3e341be9940e3e3694bd26cbb6f3c5217e18848abbc3067a2", func := "timesync/timesynclaw58.PtpsimTree", spec := "ptpsimTree", unfollowed := true, recurses := true, named := ["timesync/dataset.fields"], plainKeys := false, apart := false, laid := [("timesync/dataset.fields", laid_timesync_dataset_fields)] }
def PtpsimTreeSaid : Prop := ptpsimTreeRow.holds Tryz.pinned (OpenSpec.ofChange ptpsimTreeSpec)

/-- ITS FALSE NEIGHBOUR: 'it returns false'. Refute it at one input. -/
def ptpsimTreeWrong : ChangeSpec := { name := "ptpsimTree", fn := fun _ => fun
  | [d1, d2] => { results := [.lit (.bool false)], args := [d1, d2] }
  | _ => none }
def PtpsimTreeWrongFalsely : Prop := ptpsimTreeRow.holds Tryz.pinned (OpenSpec.ofChange ptpsimTreeWrong)

/- THE SECOND FORM. 'bulk': how many values and letters a reading holds, each counted each time it is reached (what is shared counts as often as it is met; a slice's spare places count too). A statement '..UptoSaid' is the law's where the arguments, and the package variables that the reading takes, are together of bulk at most 1048576: NARROWER than '..Said'. Prove '..Said' where nothing that the law and all that it calls make is longer than what came in: it says more and counts as full. Else prove '..UptoSaid'. A law counts once. -/
mutual
def uptoBulk {H : Type} : DataW H → Nat
  | .lit (.string bytes) => bytes.length + 1
  | .lit _ => 1
  | .nil => 1
  | .ptr d => uptoBulk d + 1
  | .slice elems spare => uptoBulkAll elems + uptoBulkAll spare + 1
  | .agg parts => uptoBulkAll parts + 1
  | .iface _ d => uptoBulk d + 1
  | .map entries => uptoBulkEntries entries + 1
  | .held _ => 1
def uptoBulkAll {H : Type} : List (DataW H) → Nat
  | [] => 0
  | d :: r => uptoBulk d + uptoBulkAll r
def uptoBulkEntries {H : Type} : List (Lit × DataW H) → Nat
  | [] => 0
  | x :: r => uptoBulkEntry x + uptoBulkEntries r
def uptoBulkEntry {H : Type} : Lit × DataW H → Nat
  | (.string bytes, d) => bytes.length + uptoBulk d + 1
  | (_, d) => uptoBulk d + 1
 end
def uptoSmall : (H : Type) → List (DataW H) → Bool := fun _ ds => decide (uptoBulkAll ds ≤ 1048576)
def OpenSpec.upto (s : _root_.Go.ChangeSpec) : _root_.Go.OpenSpec := { _root_.Go.OpenSpec.ofChange s with cond := some uptoSmall }

/-- 'timesynclaw58.PtpsimRuns', WHERE WHAT IT READS IS OF BULK AT MOST 1048576: true; the input reads as it did. -/
def ptpsimRunsUptoRow : OpenClaim := { program := "ytodbfpjjahpahaagreatdoor", sum := "471e9ee3bbe7a0a3e341be9940e3e3694bd26cbb6f3c5217e18848abbc3067a2", func := "timesync/timesynclaw58.PtpsimRuns", spec := "ptpsimRuns", unfollowed := true, recurses := true, named := ["timesync/dataset.fields"], plainKeys := false, apart := false, laid := [("timesync/dataset.fields", laid_timesync_dataset_fields)], narrowed := true }
def PtpsimRunsUptoSaid : Prop := ptpsimRunsUptoRow.holds Tryz.pinned (OpenSpec.upto ptpsimRunsSpec)

/-- 'timesynclaw58.PtpsimPhases', WHERE WHAT IT READS IS OF BULK AT MOST 1048576: true; the input reads as it did. -/
def ptpsimPhasesUptoRow : OpenClaim := { program := "ytodbfpjjahpahaagreatdoor", sum := "471e9ee3bbe7a0a3e341be9940e3e3694bd26cbb6f3c5217e18848abbc3067a2", func := "timesync/timesynclaw58.PtpsimPhases", spec := "ptpsimPhases", unfollowed := true, recurses := true, named := ["timesync/dataset.fields"], plainKeys := false, apart := false, laid := [("timesync/dataset.fields", laid_timesync_dataset_fields)], narrowed := true }
def PtpsimPhasesUptoSaid : Prop := ptpsimPhasesUptoRow.holds Tryz.pinned (OpenSpec.upto ptpsimPhasesSpec)

/-- 'timesynclaw58.PtpsimExact', WHERE WHAT IT READS IS OF BULK AT MOST 1048576: true; the input reads as it did. -/
def ptpsimExactUptoRow : OpenClaim := { program := "ytodbfpjjahpahaagreatdoor", sum := "471e9ee3bbe7a0a3e341be9940e3e3694bd26cbb6f3c5217e18848abbc3067a2", func := "timesync/timesynclaw58.PtpsimExact", spec := "ptpsimExact", unfollowed := true, recurses := true, named := ["timesync/dataset.fields"], plainKeys := false, apart := false, laid := [("timesync/dataset.fields", laid_timesync_dataset_fields)], narrowed := true }
def PtpsimExactUptoSaid : Prop := ptpsimExactUptoRow.holds Tryz.pinned (OpenSpec.upto ptpsimExactSpec)

/-- 'timesynclaw58.PtpsimRoutes', WHERE WHAT IT READS IS OF BULK AT MOST 1048576: true; the input reads as it did. -/
def ptpsimRoutesUptoRow : OpenClaim := { program := "ytodbfpjjahpahaagreatdoor", sum := "471e9ee3bbe7a0a3e341be9940e3e3694bd26cbb6f3c5217e18848abbc3067a2", func := "timesync/timesynclaw58.PtpsimRoutes", spec := "ptpsimRoutes", unfollowed := true, recurses := true, named := ["timesync/dataset.fields"], plainKeys := false, apart := false, laid := [("timesync/dataset.fields", laid_timesync_dataset_fields)], narrowed := true }
def PtpsimRoutesUptoSaid : Prop := ptpsimRoutesUptoRow.holds Tryz.pinned (OpenSpec.upto ptpsimRoutesSpec)

/-- 'timesynclaw58.PtpsimTree', WHERE WHAT IT READS IS OF BULK AT MOST 1048576: true; the input reads as it did. -/
def ptpsimTreeUptoRow : OpenClaim := { program := "ytodbfpjjahpahaagreatdoor", sum := "471e9ee3bbe7a0a3e341be9940e3e3694bd26cbb6f3c5217e18848abbc3067a2", func := "timesync/timesynclaw58.PtpsimTree", spec := "ptpsimTree", unfollowed := true, recurses := true, named := ["timesync/dataset.fields"], plainKeys := false, apart := false, laid := [("timesync/dataset.fields", laid_timesync_dataset_fields)], narrowed := true }
def PtpsimTreeUptoSaid : Prop := ptpsimTreeUptoRow.holds Tryz.pinned (OpenSpec.upto ptpsimTreeSpec)

end Rows
end Go.Proofs.YtodbfpjjahpahaaGreatDoor
