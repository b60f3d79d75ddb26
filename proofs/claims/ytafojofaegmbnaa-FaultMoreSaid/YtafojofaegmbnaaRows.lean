/-
  No cell of these rows narrows 'for every input' (looked for: loops, veiled, ifaces, maps, wideKeys, modest, calm, conditions, laid).
  DERIVED. THE GIVEN ROWS OF THIS SEAT. 8 by the template 'for every input the law returns true; each argument reads behind the call as it read before'; 0 by the template 'total and deterministic' (their statements: YtafojofaegmbnaaTotals.lean).
  GIVEN WITH THE SEED: the statements are not yours to turn. If you find one false, say at which input.
  Laid BY PROGRAM, IN A SANDBOX (cutbox-rows.mjs): the forced cells as the released guide's own fill.sh prints them over the translation 4e96175476eacec8… (all of the seat's roots in one cut). By AI agents, Wed Nov 11 2026. No macro, syntax, notation, axiom, sorry.
-/
import Derived.Test.YtafojofaegmbnaaChecked
import GoSem.Claim
import GoSem.ClaimJoined
import GoSem.ClaimMapViews
import Derived.JoinedTies
import Derived.KernelRfl
namespace Go.Proofs.Ytafojofaegmbnaa
/- THE CELL 'sum', in the pinned program and in every row, IS THE sha256 OF THE DUMP (.gsa) THAT YtafojofaegmbnaaProg.lean LOADS. Nothing in Lean hashes anything: it is a label: what it is worth is what the hold of that sum in a sandbox is worth. -/
noncomputable def Try.pinned : Pinned := { name := "ytafojofaegmbnaa", sum := "4e96175476eacec8c8affc0c2d8e22dd57af5ef9b30f733866097d2a5781dd02", checked := Try.checked }
namespace Rows
def none {H : Type} : Left H := { results := [], args := [] }

/-- 'timesynclaw55.FaultChecks': WHATEVER THE INPUT: true; the input reads as it did. -/
def faultChecksSpec : ChangeSpec := { name := "faultChecks", fn := fun _ => fun
  | [d] => { results := [.lit (.bool true)], args := [d] }
  | _ => none }
def faultChecksRow : OpenClaim := { program := "ytafojofaegmbnaa", sum := "4e96175476eacec8c8affc0c2d8e22dd57af5ef9b30f733866097d2a5781dd02", func := "timesync/timesynclaw55.FaultChecks", spec := "faultChecks", unfollowed := true, recurses := true, apart := false }
def FaultChecksSaid : Prop := faultChecksRow.holds Try.pinned (OpenSpec.ofChange faultChecksSpec)

/-- ITS FALSE NEIGHBOUR: 'it returns false'. Refute it at one input. -/
def faultChecksWrong : ChangeSpec := { name := "faultChecks", fn := fun _ => fun
  | [d] => { results := [.lit (.bool false)], args := [d] }
  | _ => none }
def FaultChecksWrongFalsely : Prop := faultChecksRow.holds Try.pinned (OpenSpec.ofChange faultChecksWrong)

/-- 'timesynclaw55.FaultApplies': WHATEVER THE INPUT: true; the input reads as it did. -/
def faultAppliesSpec : ChangeSpec := { name := "faultApplies", fn := fun _ => fun
  | [d1, d2, d3, d4, d5] => { results := [.lit (.bool true)], args := [d1, d2, d3, d4, d5] }
  | _ => none }
def faultAppliesRow : OpenClaim := { program := "ytafojofaegmbnaa", sum := "4e96175476eacec8c8affc0c2d8e22dd57af5ef9b30f733866097d2a5781dd02", func := "timesync/timesynclaw55.FaultApplies", spec := "faultApplies", unfollowed := true, recurses := true, apart := false }
def FaultAppliesSaid : Prop := faultAppliesRow.holds Try.pinned (OpenSpec.ofChange faultAppliesSpec)

/-- ITS FALSE NEIGHBOUR: 'it returns false'. Refute it at one input. -/
def faultAppliesWrong : ChangeSpec := { name := "faultApplies", fn := fun _ => fun
  | [d1, d2, d3, d4, d5] => { results := [.lit (.bool false)], args := [d1, d2, d3, d4, d5] }
  | _ => none }
def FaultAppliesWrongFalsely : Prop := faultAppliesRow.holds Try.pinned (OpenSpec.ofChange faultAppliesWrong)

/-- 'timesynclaw55.FaultUnsound': WHATEVER THE INPUT: true; the input reads as it did. -/
def faultUnsoundSpec : ChangeSpec := { name := "faultUnsound", fn := fun _ => fun
  | [d1, d2, d3] => { results := [.lit (.bool true)], args := [d1, d2, d3] }
  | _ => none }
def faultUnsoundRow : OpenClaim := { program := "ytafojofaegmbnaa", sum := "4e96175476eacec8c8affc0c2d8e22dd57af5ef9b30f733866097d2a5781dd02", func := "timesync/timesynclaw55.FaultUnsound", spec := "faultUnsound", unfollowed := true, recurses := true, apart := false }
def FaultUnsoundSaid : Prop := faultUnsoundRow.holds Try.pinned (OpenSpec.ofChange faultUnsoundSpec)

/-- ITS FALSE NEIGHBOUR: 'it returns false'. Refute it at one input. -/
def faultUnsoundWrong : ChangeSpec := { name := "faultUnsound", fn := fun _ => fun
  | [d1, d2, d3] => { results := [.lit (.bool false)], args := [d1, d2, d3] }
  | _ => none }
def FaultUnsoundWrongFalsely : Prop := faultUnsoundRow.holds Try.pinned (OpenSpec.ofChange faultUnsoundWrong)

/-- 'timesynclaw55.FaultOthers': WHATEVER THE INPUT: true; the input reads as it did. -/
def faultOthersSpec : ChangeSpec := { name := "faultOthers", fn := fun _ => fun
  | [d1, d2, d3, d4, d5] => { results := [.lit (.bool true)], args := [d1, d2, d3, d4, d5] }
  | _ => none }
def faultOthersRow : OpenClaim := { program := "ytafojofaegmbnaa", sum := "4e96175476eacec8c8affc0c2d8e22dd57af5ef9b30f733866097d2a5781dd02", func := "timesync/timesynclaw55.FaultOthers", spec := "faultOthers", unfollowed := true, recurses := true, apart := false }
def FaultOthersSaid : Prop := faultOthersRow.holds Try.pinned (OpenSpec.ofChange faultOthersSpec)

/-- ITS FALSE NEIGHBOUR: 'it returns false'. Refute it at one input. -/
def faultOthersWrong : ChangeSpec := { name := "faultOthers", fn := fun _ => fun
  | [d1, d2, d3, d4, d5] => { results := [.lit (.bool false)], args := [d1, d2, d3, d4, d5] }
  | _ => none }
def FaultOthersWrongFalsely : Prop := faultOthersRow.holds Try.pinned (OpenSpec.ofChange faultOthersWrong)

/-- 'timesynclaw55.FaultShifts': WHATEVER THE INPUT: true; the input reads as it did. -/
def faultShiftsSpec : ChangeSpec := { name := "faultShifts", fn := fun _ => fun
  | [d1, d2, d3, d4, d5, d6] => { results := [.lit (.bool true)], args := [d1, d2, d3, d4, d5, d6] }
  | _ => none }
def faultShiftsRow : OpenClaim := { program := "ytafojofaegmbnaa", sum := "4e96175476eacec8c8affc0c2d8e22dd57af5ef9b30f733866097d2a5781dd02", func := "timesync/timesynclaw55.FaultShifts", spec := "faultShifts", unfollowed := true, recurses := true, apart := false }
def FaultShiftsSaid : Prop := faultShiftsRow.holds Try.pinned (OpenSpec.ofChange faultShiftsSpec)

/-- ITS FALSE NEIGHBOUR: 'it returns false'. Refute it at one input. -/
def faultShiftsWrong : ChangeSpec := { name := "faultShifts", fn := fun _ => fun
  | [d1, d2, d3, d4, d5, d6] => { results := [.lit (.bool false)], args := [d1, d2, d3, d4, d5, d6] }
  | _ => none }
def FaultShiftsWrongFalsely : Prop := faultShiftsRow.holds Try.pinned (OpenSpec.ofChange faultShiftsWrong)

/-- 'timesynclaw55.FaultNarrows': WHATEVER THE INPUT: true; the input reads as it did. -/
def faultNarrowsSpec : ChangeSpec := { name := "faultNarrows", fn := fun _ => fun
  | [d1, d2, d3] => { results := [.lit (.bool true)], args := [d1, d2, d3] }
  | _ => none }
def faultNarrowsRow : OpenClaim := { program := "ytafojofaegmbnaa", sum := "4e96175476eacec8c8affc0c2d8e22dd57af5ef9b30f733866097d2a5781dd02", func := "timesync/timesynclaw55.FaultNarrows", spec := "faultNarrows", unfollowed := true, recurses := true, apart := false }
def FaultNarrowsSaid : Prop := faultNarrowsRow.holds Try.pinned (OpenSpec.ofChange faultNarrowsSpec)

/-- ITS FALSE NEIGHBOUR: 'it returns false'. Refute it at one input. -/
def faultNarrowsWrong : ChangeSpec := { name := "faultNarrows", fn := fun _ => fun
  | [d1, d2, d3] => { results := [.lit (.bool false)], args := [d1, d2, d3] }
  | _ => none }
def FaultNarrowsWrongFalsely : Prop := faultNarrowsRow.holds Try.pinned (OpenSpec.ofChange faultNarrowsWrong)

/-- 'timesynclaw55.FaultLeast': WHATEVER THE INPUT: true; the input reads as it did. -/
def faultLeastSpec : ChangeSpec := { name := "faultLeast", fn := fun _ => fun
  | [d1, d2, d3, d4] => { results := [.lit (.bool true)], args := [d1, d2, d3, d4] }
  | _ => none }
def faultLeastRow : OpenClaim := { program := "ytafojofaegmbnaa", sum := "4e96175476eacec8c8affc0c2d8e22dd57af5ef9b30f733866097d2a5781dd02", func := "timesync/timesynclaw55.FaultLeast", spec := "faultLeast", unfollowed := true, recurses := true, apart := false }
def FaultLeastSaid : Prop := faultLeastRow.holds Try.pinned (OpenSpec.ofChange faultLeastSpec)

/-- ITS FALSE NEIGHBOUR: 'it returns false'. Refute it at one input. -/
def faultLeastWrong : ChangeSpec := { name := "faultLeast", fn := fun _ => fun
  | [d1, d2, d3, d4] => { results := [.lit (.bool false)], args := [d1, d2, d3, d4] }
  | _ => none }
def FaultLeastWrongFalsely : Prop := faultLeastRow.holds Try.pinned (OpenSpec.ofChange faultLeastWrong)

/-- 'timesynclaw55.FaultMore': WHATEVER THE INPUT: true; the input reads as it did. -/
def faultMoreSpec : ChangeSpec := { name := "faultMore", fn := fun _ => fun
  | [d1, d2, d3, d4] => { results := [.lit (.bool true)], args := [d1, d2, d3, d4] }
  | _ => none }
def faultMoreRow : OpenClaim := { program := "ytafojofaegmbnaa", sum := "4e96175476eacec8c8affc0c2d8e22dd57af5ef9b30f733866097d2a5781dd02", func := "timesync/timesynclaw55.FaultMore", spec := "faultMore", unfollowed := true, recurses := true, apart := false }
def FaultMoreSaid : Prop := faultMoreRow.holds Try.pinned (OpenSpec.ofChange faultMoreSpec)

/-- ITS FALSE NEIGHBOUR: 'it returns false'. Refute it at one input. -/
def faultMoreWrong : ChangeSpec := { name := "faultMore", fn := fun _ => fun
  | [d1, d2, d3, d4] => { results := [.lit (.bool false)], args := [d1, d2, d3, d4] }
  | _ => none }
def FaultMoreWrongFalsely : Prop := faultMoreRow.holds Try.pinned (OpenSpec.ofChange faultMoreWrong)

/- THE SECOND FORM. 'bulk': how many values and letters a reading holds, each counted each time it is reached (what is shared counts as often as it is met; a slice's spare places count too). A statement '..UptoSaid' is the law's where the arguments, and the package variables that the reading takes, are together of bulk at most 1048576: NARROWER than '..Said'. Prove '..Said' where nothing that the law and all that it calls make is longer than what came in: it says more and counts as full. Else prove '..UptoSaid'. A law counts once. -/
mutual
def uptoBulk {H : Type} : DataW H → Nat
  | .lit (.string bytes) => bytes.length + 1
  | .lit _ => 1
  | .nil => 1
  | .ptr d => uptoBulk d + 1
  | .slice elems spare => uptoBulkAll elems + uptoBulkAll spare + 1
  | .agg parts => uptoBulkAll parts + 1
  | .iface _ d => uptoBulk d + 1
  | .map entries => uptoBulkEntries entries + 1
  | .held _ => 1
def uptoBulkAll {H : Type} : List (DataW H) → Nat
  | [] => 0
  | d :: r => uptoBulk d + uptoBulkAll r
def uptoBulkEntries {H : Type} : List (Lit × DataW H) → Nat
  | [] => 0
  | x :: r => uptoBulkEntry x + uptoBulkEntries r
def uptoBulkEntry {H : Type} : Lit × DataW H → Nat
  | (.string bytes, d) => bytes.length + uptoBulk d + 1
  | (_, d) => uptoBulk d + 1
 end
def uptoSmall : (H : Type) → List (DataW H) → Bool := fun _ ds => decide (uptoBulkAll ds ≤ 1048576)
def OpenSpec.upto (s : _root_.Go.ChangeSpec) : _root_.Go.OpenSpec := { _root_.Go.OpenSpec.ofChange s with cond := some uptoSmall }

/-- 'timesynclaw55.FaultChecks', WHERE WHAT IT READS IS OF BULK AT MOST 1048576: true; the input reads as it did. -/
def faultChecksUptoRow : OpenClaim := { program := "ytafojofaegmbnaa", sum := "4e96175476eacec8c8affc0c2d8e22dd57af5ef9b30f733866097d2a5781dd02", func := "timesync/timesynclaw55.FaultChecks", spec := "faultChecks", unfollowed := true, recurses := true, apart := false, narrowed := true }
def FaultChecksUptoSaid : Prop := faultChecksUptoRow.holds Try.pinned (OpenSpec.upto faultChecksSpec)

/-- 'timesynclaw55.FaultApplies', WHERE WHAT IT READS IS OF BULK AT MOST 1048576: true; the input reads as it did. -/
def faultAppliesUptoRow : OpenClaim := { program := "ytafojofaegmbnaa", sum := "4e96175476eacec8c8affc0c2d8e22dd57af5ef9b30f733866097d2a5781dd02", func := "timesync/timesynclaw55.FaultApplies", spec := "faultApplies", unfollowed := true, recurses := true, apart := false, narrowed := true }
def FaultAppliesUptoSaid : Prop := faultAppliesUptoRow.holds Try.pinned (OpenSpec.upto faultAppliesSpec)

/-- 'timesynclaw55.FaultUnsound', WHERE WHAT IT READS IS OF BULK AT MOST 1048576: true; the input reads as it did. -/
def faultUnsoundUptoRow : OpenClaim := { program := "ytafojofaegmbnaa", sum := "4e96175476eacec8c8affc0c2d8e22dd57af5ef9b30f733866097d2a5781dd02", func := "timesync/timesynclaw55.FaultUnsound", spec := "faultUnsound", unfollowed := true, recurses := true, apart := false, narrowed := true }
def FaultUnsoundUptoSaid : Prop := faultUnsoundUptoRow.holds Try.pinned (OpenSpec.upto faultUnsoundSpec)

/-- 'timesynclaw55.FaultOthers', WHERE WHAT IT READS IS OF BULK AT MOST 1048576: true; the input reads as it did. -/
def faultOthersUptoRow : OpenClaim := { program := "ytafojofaegmbnaa", sum := "4e96175476eacec8c8affc0c2d8e22dd57af5ef9b30f733866097d2a5781dd02", func := "timesync/timesynclaw55.FaultOthers", spec := "faultOthers", unfollowed := true, recurses := true, apart := false, narrowed := true }
def FaultOthersUptoSaid : Prop := faultOthersUptoRow.holds Try.pinned (OpenSpec.upto faultOthersSpec)

/-- 'timesynclaw55.FaultShifts', WHERE WHAT IT READS IS OF BULK AT MOST 1048576: true; the input reads as it did. -/
def faultShiftsUptoRow : OpenClaim := { program := "ytafojofaegmbnaa", sum := "4e96175476eacec8c8affc0c2d8e22dd57af5ef9b30f733866097d2a5781dd02", func := "timesync/timesynclaw55.FaultShifts", spec := "faultShifts", unfollowed := true, recurses := true, apart := false, narrowed := true }
def FaultShiftsUptoSaid : Prop := faultShiftsUptoRow.holds Try.pinned (OpenSpec.upto faultShiftsSpec)

/-- 'timesynclaw55.FaultNarrows', WHERE WHAT IT READS IS OF BULK AT MOST 1048576: true; the input reads as it did. -/
def faultNarrowsUptoRow : OpenClaim := { program := "ytafojofaegmbnaa", sum := "4e96175476eacec8c8affc0c2d8e22dd57af5ef9b30f733866097d2a5781dd02", func := "timesync/timesynclaw55.FaultNarrows", spec := "faultNarrows", unfollowed := true, recurses := true, apart := false, narrowed := true }
def FaultNarrowsUptoSaid : Prop := faultNarrowsUptoRow.holds Try.pinned (OpenSpec.upto faultNarrowsSpec)

/-- 'timesynclaw55.FaultLeast', WHERE WHAT IT READS IS OF BULK AT MOST 1048576: true; the input reads as it did. -/
def faultLeastUptoRow : OpenClaim := { program := "ytafojofaegmbnaa", sum := "4e96175476eacec8c8affc0c2d8e22dd57af5ef9b30f733866097d2a5781dd02", func := "timesync/timesynclaw55.FaultLeast", spec := "faultLeast", unfollowed := true, recurses := true, apart := false, narrowed := true }
def FaultLeastUptoSaid : Prop := faultLeastUptoRow.holds Try.pinned (OpenSpec.upto faultLeastSpec)

/-- 'timesynclaw55.FaultMore', WHERE WHAT IT READS IS OF BULK AT MOST 1048576: true; the input reads as it did. -/
def faultMoreUptoRow : OpenClaim := { program := "ytafojofaegmbnaa", sum := "4e96175476eacec8c8affc0c2d8e22dd57af5ef9b30f733866097d2a5781dd02", func := "timesync/timesynclaw55.FaultMore", spec := "faultMore", unfollowed := true, recurses := true, apart := false, narrowed := true }
def FaultMoreUptoSaid : Prop := faultMoreUptoRow.holds Try.pinned (OpenSpec.upto faultMoreSpec)

end Rows
end Go.Proofs.Ytafojofaegmbnaa
