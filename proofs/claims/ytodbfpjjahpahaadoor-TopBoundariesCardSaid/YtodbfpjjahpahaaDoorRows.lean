/-
  NARROWER THAN 'FOR EVERY INPUT', by the rows' own cells (each row's printed sentence says how): TopBoundaries: laid · ElectTree: laid · ElectStarts: laid · ElectOrders: laid · ElectSettles: laid.
  DERIVED. THE GIVEN ROWS OF THIS SEAT. 5 by the template 'for every input the law returns true; each argument reads behind the call as it read before'; 0 by the template 'total and deterministic' (their statements: YtodbfpjjahpahaaDoorTotals.lean).
  GIVEN WITH THE SEED: the statements are not yours to turn. If you find one false, say at which input.
  Laid BY PROGRAM, IN A SANDBOX (cutbox-rows.mjs): the forced cells as the released guide's own fill.sh prints them over the translation cc4d57d2c2d80f22… (all of the seat's roots in one cut). By AI agents, Wed Nov 11 2026. No macro, syntax, notation, axiom, sorry.
-/
import Derived.Test.YtodbfpjjahpahaaDoorChecked
import GoSem.Claim
import GoSem.ClaimJoined
import GoSem.ClaimMapViews
import Derived.JoinedTies
import Derived.KernelRfl
namespace Go.Proofs.YtodbfpjjahpahaaDoor
/- THE CELL 'sum', in the pinned program and in every row, IS THE sha256 OF THE DUMP (.gsa) THAT YtodbfpjjahpahaaDoorProg.lean LOADS. Nothing in Lean hashes anything: it is a label: what it is worth is what the hold of that sum in a sandbox is worth. -/
noncomputable def Tryd.pinned : Pinned := { name := "ytodbfpjjahpahaadoor", sum := "cc4d57d2c2d80f22c7906c7870106364a0dba1a5838e5e12bc8d51d2696b31ef", checked := Tryd.checked }
namespace Rows
def none {H : Type} : Left H := { results := [], args := [] }

/- WHAT THE LISTED PACKAGE-LEVEL VARIABLES READ AS WHEN THE CALL BEGINS. Each datum BY PROGRAM (the guide's laid-datum.mjs) off the statement by which the dump's own 'gosem.cut.vars' lays the variable. In a bare row this is a premise. The card (YtodbfpjjahpahaaDoorCards.lean) ties it to the program's text. -/
def laid_timesync_port_table {H : Type} : DataW H := .agg [.agg [.lit (.int .i64 0), .lit (.int .i64 1), .lit (.int .i64 1), .lit (.int .i64 1), .lit (.int .i64 1), .lit (.int .i64 1), .lit (.int .i64 1), .lit (.int .i64 1), .lit (.int .i64 1), .lit (.int .i64 1)], .agg [.lit (.int .i64 0), .lit (.int .i64 4), .lit (.int .i64 2), .lit (.int .i64 3), .lit (.int .i64 4), .lit (.int .i64 5), .lit (.int .i64 6), .lit (.int .i64 7), .lit (.int .i64 8), .lit (.int .i64 9)], .agg [.lit (.int .i64 0), .lit (.int .i64 2), .lit (.int .i64 2), .lit (.int .i64 3), .lit (.int .i64 2), .lit (.int .i64 2), .lit (.int .i64 2), .lit (.int .i64 2), .lit (.int .i64 2), .lit (.int .i64 2)], .agg [.lit (.int .i64 0), .lit (.int .i64 1), .lit (.int .i64 1), .lit (.int .i64 3), .lit (.int .i64 4), .lit (.int .i64 5), .lit (.int .i64 6), .lit (.int .i64 7), .lit (.int .i64 8), .lit (.int .i64 9)], .agg [.lit (.int .i64 0), .lit (.int .i64 3), .lit (.int .i64 3), .lit (.int .i64 3), .lit (.int .i64 3), .lit (.int .i64 3), .lit (.int .i64 3), .lit (.int .i64 3), .lit (.int .i64 3), .lit (.int .i64 3)], .agg [.lit (.int .i64 0), .lit (.int .i64 1), .lit (.int .i64 2), .lit (.int .i64 1), .lit (.int .i64 4), .lit (.int .i64 5), .lit (.int .i64 6), .lit (.int .i64 7), .lit (.int .i64 8), .lit (.int .i64 9)], .agg [.lit (.int .i64 0), .lit (.int .i64 1), .lit (.int .i64 2), .lit (.int .i64 3), .lit (.int .i64 6), .lit (.int .i64 5), .lit (.int .i64 6), .lit (.int .i64 6), .lit (.int .i64 6), .lit (.int .i64 6)], .agg [.lit (.int .i64 0), .lit (.int .i64 1), .lit (.int .i64 2), .lit (.int .i64 3), .lit (.int .i64 4), .lit (.int .i64 6), .lit (.int .i64 6), .lit (.int .i64 7), .lit (.int .i64 8), .lit (.int .i64 9)], .agg [.lit (.int .i64 0), .lit (.int .i64 1), .lit (.int .i64 2), .lit (.int .i64 3), .lit (.int .i64 4), .lit (.int .i64 5), .lit (.int .i64 6), .lit (.int .i64 7), .lit (.int .i64 9), .lit (.int .i64 9)], .agg [.lit (.int .i64 0), .lit (.int .i64 1), .lit (.int .i64 2), .lit (.int .i64 3), .lit (.int .i64 4), .lit (.int .i64 5), .lit (.int .i64 6), .lit (.int .i64 7), .lit (.int .i64 8), .lit (.int .i64 8)], .agg [.lit (.int .i64 0), .lit (.int .i64 1), .lit (.int .i64 2), .lit (.int .i64 3), .lit (.int .i64 4), .lit (.int .i64 5), .lit (.int .i64 6), .lit (.int .i64 7), .lit (.int .i64 8), .lit (.int .i64 9)], .agg [.lit (.int .i64 0), .lit (.int .i64 1), .lit (.int .i64 2), .lit (.int .i64 3), .lit (.int .i64 5), .lit (.int .i64 5), .lit (.int .i64 6), .lit (.int .i64 5), .lit (.int .i64 5), .lit (.int .i64 5)], .agg [.lit (.int .i64 0), .lit (.int .i64 1), .lit (.int .i64 2), .lit (.int .i64 3), .lit (.int .i64 5), .lit (.int .i64 5), .lit (.int .i64 6), .lit (.int .i64 5), .lit (.int .i64 5), .lit (.int .i64 5)], .agg [.lit (.int .i64 0), .lit (.int .i64 1), .lit (.int .i64 2), .lit (.int .i64 3), .lit (.int .i64 5), .lit (.int .i64 5), .lit (.int .i64 6), .lit (.int .i64 5), .lit (.int .i64 5), .lit (.int .i64 5)], .agg [.lit (.int .i64 0), .lit (.int .i64 1), .lit (.int .i64 2), .lit (.int .i64 3), .lit (.int .i64 7), .lit (.int .i64 7), .lit (.int .i64 7), .lit (.int .i64 7), .lit (.int .i64 7), .lit (.int .i64 7)], .agg [.lit (.int .i64 0), .lit (.int .i64 1), .lit (.int .i64 2), .lit (.int .i64 3), .lit (.int .i64 7), .lit (.int .i64 7), .lit (.int .i64 7), .lit (.int .i64 7), .lit (.int .i64 7), .lit (.int .i64 7)], .agg [.lit (.int .i64 0), .lit (.int .i64 1), .lit (.int .i64 2), .lit (.int .i64 3), .lit (.int .i64 8), .lit (.int .i64 8), .lit (.int .i64 8), .lit (.int .i64 8), .lit (.int .i64 8), .lit (.int .i64 8)]]
def laid_timesync_dataset_fields {H : Type} : DataW H := .agg [.lit (.int .i64 0), .lit (.int .i64 1), .lit (.int .i64 2), .lit (.int .i64 3), .lit (.int .i64 4), .lit (.int .i64 5), .lit (.int .i64 6), .lit (.int .i64 7), .lit (.int .i64 8), .lit (.int .i64 9), .lit (.int .i64 10), .lit (.int .i64 7), .lit (.int .i64 10), .lit (.int .i64 8)]

/-- 'timesynctop.TopBoundaries': WHATEVER THE INPUT: true; the input reads as it did. -/
def topBoundariesSpec : ChangeSpec := { name := "topBoundaries", fn := fun _ => fun
  | [d] => { results := [.lit (.bool true)], args := [d] }
  | _ => none }
def topBoundariesRow : OpenClaim := { program := "ytodbfpjjahpahaadoor", sum := "cc4d57d2c2d80f22c7906c7870106364a0dba1a5838e5e12bc8d51d2696b31ef", func := "timesync/timesynctop.TopBoundaries", spec := "topBoundaries", unfollowed := true, recurses := true, named := ["timesync/dataset.fields", "timesync/port.table"], plainKeys := false, apart := false, laid := [("timesync/port.table", laid_timesync_port_table), ("timesync/dataset.fields", laid_timesync_dataset_fields)] }
def TopBoundariesSaid : Prop := topBoundariesRow.holds Tryd.pinned (OpenSpec.ofChange topBoundariesSpec)

/-- ITS FALSE NEIGHBOUR: 'it returns false'. Refute it at one input. -/
def topBoundariesWrong : ChangeSpec := { name := "topBoundaries", fn := fun _ => fun
  | [d] => { results := [.lit (.bool false)], args := [d] }
  | _ => none }
def TopBoundariesWrongFalsely : Prop := topBoundariesRow.holds Tryd.pinned (OpenSpec.ofChange topBoundariesWrong)

/-- 'timesynclaw42.ElectTree': WHATEVER THE INPUT: true; the input reads as it did. -/
def electTreeSpec : ChangeSpec := { name := "electTree", fn := fun _ => fun
  | [d1, d2] => { results := [.lit (.bool true)], args := [d1, d2] }
  | _ => none }
def electTreeRow : OpenClaim := { program := "ytodbfpjjahpahaadoor", sum := "cc4d57d2c2d80f22c7906c7870106364a0dba1a5838e5e12bc8d51d2696b31ef", func := "timesync/timesynclaw42.ElectTree", spec := "electTree", unfollowed := true, recurses := true, named := ["timesync/dataset.fields"], plainKeys := false, apart := false, laid := [("timesync/dataset.fields", laid_timesync_dataset_fields)] }
def ElectTreeSaid : Prop := electTreeRow.holds Tryd.pinned (OpenSpec.ofChange electTreeSpec)

/-- ITS FALSE NEIGHBOUR: 'it returns false'. Refute it at one input. -/
def electTreeWrong : ChangeSpec := { name := "electTree", fn := fun _ => fun
  | [d1, d2] => { results := [.lit (.bool false)], args := [d1, d2] }
  | _ => none }
def ElectTreeWrongFalsely : Prop := electTreeRow.holds Tryd.pinned (OpenSpec.ofChange electTreeWrong)

/-- 'timesynclaw42.ElectStarts': WHATEVER THE INPUT: true; the input reads as it did. -/
def electStartsSpec : ChangeSpec := { name := "electStarts", fn := fun _ => fun
  | [d] => { results := [.lit (.bool true)], args := [d] }
  | _ => none }
def electStartsRow : OpenClaim := { program := "ytodbfpjjahpahaadoor", sum := "cc4d57d2c2d80f22c7906c7870106364a0dba1a5838e5e12bc8d51d2696b31ef", func := "timesync/timesynclaw42.ElectStarts", spec := "electStarts", unfollowed := true, recurses := true, named := ["timesync/dataset.fields"], plainKeys := false, apart := false, laid := [("timesync/dataset.fields", laid_timesync_dataset_fields)] }
def ElectStartsSaid : Prop := electStartsRow.holds Tryd.pinned (OpenSpec.ofChange electStartsSpec)

/-- ITS FALSE NEIGHBOUR: 'it returns false'. Refute it at one input. -/
def electStartsWrong : ChangeSpec := { name := "electStarts", fn := fun _ => fun
  | [d] => { results := [.lit (.bool false)], args := [d] }
  | _ => none }
def ElectStartsWrongFalsely : Prop := electStartsRow.holds Tryd.pinned (OpenSpec.ofChange electStartsWrong)

/-- 'timesynclaw42.ElectOrders': WHATEVER THE INPUT: true; the input reads as it did. -/
def electOrdersSpec : ChangeSpec := { name := "electOrders", fn := fun _ => fun
  | [d] => { results := [.lit (.bool true)], args := [d] }
  | _ => none }
def electOrdersRow : OpenClaim := { program := "ytodbfpjjahpahaadoor", sum := "cc4d57d2c2d80f22c7906c7870106364a0dba1a5838e5e12bc8d51d2696b31ef", func := "timesync/timesynclaw42.ElectOrders", spec := "electOrders", unfollowed := true, recurses := true, named := ["timesync/dataset.fields"], plainKeys := false, apart := false, laid := [("timesync/dataset.fields", laid_timesync_dataset_fields)] }
def ElectOrdersSaid : Prop := electOrdersRow.holds Tryd.pinned (OpenSpec.ofChange electOrdersSpec)

/-- ITS FALSE NEIGHBOUR: 'it returns false'. Refute it at one input. -/
def electOrdersWrong : ChangeSpec := { name := "electOrders", fn := fun _ => fun
  | [d] => { results := [.lit (.bool false)], args := [d] }
  | _ => none }
def ElectOrdersWrongFalsely : Prop := electOrdersRow.holds Tryd.pinned (OpenSpec.ofChange electOrdersWrong)

/-- 'timesynclaw42.ElectSettles': WHATEVER THE INPUT: true; the input reads as it did. -/
def electSettlesSpec : ChangeSpec := { name := "electSettles", fn := fun _ => fun
  | [d1, d2, d3] => { results := [.lit (.bool true)], args := [d1, d2, d3] }
  | _ => none }
def electSettlesRow : OpenClaim := { program := "ytodbfpjjahpahaadoor", sum := "cc4d57d2c2d80f22c7906c7870106364a0dba1a5838e5e12bc8d51d2696b31ef", func := "timesync/timesynclaw42.ElectSettles", spec := "electSettles", unfollowed := true, recurses := true, named := ["timesync/dataset.fields"], plainKeys := false, apart := false, laid := [("timesync/dataset.fields", laid_timesync_dataset_fields)] }
def ElectSettlesSaid : Prop := electSettlesRow.holds Tryd.pinned (OpenSpec.ofChange electSettlesSpec)

/-- ITS FALSE NEIGHBOUR: 'it returns false'. Refute it at one input. -/
def electSettlesWrong : ChangeSpec := { name := "electSettles", fn := fun _ => fun
  | [d1, d2, d3] => { results := [.lit (.bool false)], args := [d1, d2, d3] }
  | _ => none }
def ElectSettlesWrongFalsely : Prop := electSettlesRow.holds Tryd.pinned (OpenSpec.ofChange electSettlesWrong)

/- THE SECOND FORM. 'bulk': how many values and letters a reading holds, each counted each time it is reached (what is shared counts as often as it is met; a slice's spare places count too). A statement '..UptoSaid' is the law's where the arguments, and the package variables that the reading takes, are together of bulk at most 1048576: NARROWER than '..Said'. Prove '..Said' where nothing that the law and all that it calls make is longer than what came in: it says more and counts as full. Else prove '..UptoSaid'. A law counts once. -/
mutual
def uptoBulk {H : Type} : DataW H → Nat
  | .lit (.string bytes) => bytes.length + 1
  | .lit _ => 1
  | .nil => 1
  | .ptr d => uptoBulk d + 1
  | .slice elems spare => uptoBulkAll elems + uptoBulkAll spare + 1
  | .agg parts => uptoBulkAll parts + 1
  | .iface _ d => uptoBulk d + 1
  | .map entries => uptoBulkEntries entries + 1
  | .held _ => 1
def uptoBulkAll {H : Type} : List (DataW H) → Nat
  | [] => 0
  | d :: r => uptoBulk d + uptoBulkAll r
def uptoBulkEntries {H : Type} : List (Lit × DataW H) → Nat
  | [] => 0
  | x :: r => uptoBulkEntry x + uptoBulkEntries r
def uptoBulkEntry {H : Type} : Lit × DataW H → Nat
  | (.string bytes, d) => bytes.length + uptoBulk d + 1
  | (_, d) => uptoBulk d + 1
 end
def uptoSmall : (H : Type) → List (DataW H) → Bool := fun _ ds => decide (uptoBulkAll ds ≤ 1048576)
def OpenSpec.upto (s : _root_.Go.ChangeSpec) : _root_.Go.OpenSpec := { _root_.Go.OpenSpec.ofChange s with cond := some uptoSmall }

/-- 'timesynctop.TopBoundaries', WHERE WHAT IT READS IS OF BULK AT MOST 1048576: true; the input reads as it did. -/
def topBoundariesUptoRow : OpenClaim := { program := "ytodbfpjjahpahaadoor", sum := "cc4d57d2c2d80f22c7906c7870106364a0dba1a5838e5e12bc8d51d2696b31ef", func := "timesync/timesynctop.TopBoundaries", spec := "topBoundaries", unfollowed := true, recurses := true, named := ["timesync/dataset.fields", "timesync/port.table"], plainKeys := false, apart := false, laid := [("timesync/port.table", laid_timesync_port_table), ("timesync/dataset.fields", laid_timesync_dataset_fields)], narrowed := true }
def TopBoundariesUptoSaid : Prop := topBoundariesUptoRow.holds Tryd.pinned (OpenSpec.upto topBoundariesSpec)

/-- 'timesynclaw42.ElectTree', WHERE WHAT IT READS IS OF BULK AT MOST 1048576: true; the input reads as it did. -/
def electTreeUptoRow : OpenClaim := { program := "ytodbfpjjahpahaadoor", sum := "cc4d57d2c2d80f22c7906c7870106364a0dba1a5838e5e12bc8d51d2696b31ef", func := "timesync/timesynclaw42.ElectTree", spec := "electTree", unfollowed := true, recurses := true, named := ["timesync/dataset.fields"], plainKeys := false, apart := false, laid := [("timesync/dataset.fields", laid_timesync_dataset_fields)], narrowed := true }
def ElectTreeUptoSaid : Prop := electTreeUptoRow.holds Tryd.pinned (OpenSpec.upto electTreeSpec)

/-- 'timesynclaw42.ElectStarts', WHERE WHAT IT READS IS OF BULK AT MOST 1048576: true; the input reads as it did. -/
def electStartsUptoRow : OpenClaim := { program := "ytodbfpjjahpahaadoor", sum := "cc4d57d2c2d80f22c7906c7870106364a0dba1a5838e5e12bc8d51d2696b31ef", func := "timesync/timesynclaw42.ElectStarts", spec := "electStarts", unfollowed := true, recurses := true, named := ["timesync/dataset.fields"], plainKeys := false, apart := false, laid := [("timesync/dataset.fields", laid_timesync_dataset_fields)], narrowed := true }
def ElectStartsUptoSaid : Prop := electStartsUptoRow.holds Tryd.pinned (OpenSpec.upto electStartsSpec)

/-- 'timesynclaw42.ElectOrders', WHERE WHAT IT READS IS OF BULK AT MOST 1048576: true; the input reads as it did. -/
def electOrdersUptoRow : OpenClaim := { program := "ytodbfpjjahpahaadoor", sum := "cc4d57d2c2d80f22c7906c7870106364a0dba1a5838e5e12bc8d51d2696b31ef", func := "timesync/timesynclaw42.ElectOrders", spec := "electOrders", unfollowed := true, recurses := true, named := ["timesync/dataset.fields"], plainKeys := false, apart := false, laid := [("timesync/dataset.fields", laid_timesync_dataset_fields)], narrowed := true }
def ElectOrdersUptoSaid : Prop := electOrdersUptoRow.holds Tryd.pinned (OpenSpec.upto electOrdersSpec)

/-- 'timesynclaw42.ElectSettles', WHERE WHAT IT READS IS OF BULK AT MOST 1048576: true; the input reads as it did. -/
def electSettlesUptoRow : OpenClaim := { program := "ytodbfpjjahpahaadoor", sum := "cc4d57d2c2d80f22c7906c7870106364a0dba1a5838e5e12bc8d51d2696b31ef", func := "timesync/timesynclaw42.ElectSettles", spec := "electSettles", unfollowed := true, recurses := true, named := ["timesync/dataset.fields"], plainKeys := false, apart := false, laid := [("timesync/dataset.fields", laid_timesync_dataset_fields)], narrowed := true }
def ElectSettlesUptoSaid : Prop := electSettlesUptoRow.holds Tryd.pinned (OpenSpec.upto electSettlesSpec)

end Rows
end Go.Proofs.YtodbfpjjahpahaaDoor
