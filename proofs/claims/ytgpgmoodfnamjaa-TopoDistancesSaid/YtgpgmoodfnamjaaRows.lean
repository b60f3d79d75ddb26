/-
  No cell of these rows narrows 'for every input' (looked for: loops, veiled, ifaces, maps, wideKeys, modest, calm, conditions, laid).
  DERIVED. THE GIVEN ROWS OF THIS SEAT. 7 by the template 'for every input the law returns true; each argument reads behind the call as it read before'; 0 by the template 'total and deterministic' (their statements: YtgpgmoodfnamjaaTotals.lean).
  GIVEN WITH THE SEED: the statements are not yours to turn. If you find one false, say at which input.
  Laid BY PROGRAM, IN A SANDBOX (cutbox-rows.mjs): the forced cells as the released guide's own fill.sh prints them over the translation 1848e15810304362… (all of the seat's roots in one cut). By AI agents, Wed Nov 11 2026. No macro, syntax, notation, axiom, sorry.
-/
import Derived.Test.YtgpgmoodfnamjaaChecked
import GoSem.Claim
import GoSem.ClaimJoined
import GoSem.ClaimMapViews
import Derived.JoinedTies
import Derived.KernelRfl
namespace Go.Proofs.Ytgpgmoodfnamjaa
/- THE CELL 'sum', in the pinned program and in every row, IS THE sha256 OF THE DUMP (.gsa) THAT YtgpgmoodfnamjaaProg.lean LOADS. Nothing in Lean hashes anything: it is a label: what it is worth is what the hold of that sum in a sandbox is worth. -/
noncomputable def Try.pinned : Pinned := { name := "ytgpgmoodfnamjaa", sum := "1848e158103043626087ef66ea707ac747f4924bc57d845e94a6b2109d7476c0", checked := Try.checked }
namespace Rows
def none {H : Type} : Left H := { results := [], args := [] }

/-- 'timesynclaw18.TopoChecks': WHATEVER THE INPUT: true; the input reads as it did. -/
def topoChecksSpec : ChangeSpec := { name := "topoChecks", fn := fun _ => fun
  | [d] => { results := [.lit (.bool true)], args := [d] }
  | _ => none }
def topoChecksRow : OpenClaim := { program := "ytgpgmoodfnamjaa", sum := "1848e158103043626087ef66ea707ac747f4924bc57d845e94a6b2109d7476c0", func := "timesync/timesynclaw18.TopoChecks", spec := "topoChecks", unfollowed := true, recurses := true, plainKeys := false, apart := false }
def TopoChecksSaid : Prop := topoChecksRow.holds Try.pinned (OpenSpec.ofChange topoChecksSpec)

/-- ITS FALSE NEIGHBOUR: 'it returns false'. Refute it at one input. -/
def topoChecksWrong : ChangeSpec := { name := "topoChecks", fn := fun _ => fun
  | [d] => { results := [.lit (.bool false)], args := [d] }
  | _ => none }
def TopoChecksWrongFalsely : Prop := topoChecksRow.holds Try.pinned (OpenSpec.ofChange topoChecksWrong)

/-- 'timesynclaw18.TopoPaths': WHATEVER THE INPUT: true; the input reads as it did. -/
def topoPathsSpec : ChangeSpec := { name := "topoPaths", fn := fun _ => fun
  | [d1, d2, d3] => { results := [.lit (.bool true)], args := [d1, d2, d3] }
  | _ => none }
def topoPathsRow : OpenClaim := { program := "ytgpgmoodfnamjaa", sum := "1848e158103043626087ef66ea707ac747f4924bc57d845e94a6b2109d7476c0", func := "timesync/timesynclaw18.TopoPaths", spec := "topoPaths", unfollowed := true, recurses := true, plainKeys := false, apart := false }
def TopoPathsSaid : Prop := topoPathsRow.holds Try.pinned (OpenSpec.ofChange topoPathsSpec)

/-- ITS FALSE NEIGHBOUR: 'it returns false'. Refute it at one input. -/
def topoPathsWrong : ChangeSpec := { name := "topoPaths", fn := fun _ => fun
  | [d1, d2, d3] => { results := [.lit (.bool false)], args := [d1, d2, d3] }
  | _ => none }
def TopoPathsWrongFalsely : Prop := topoPathsRow.holds Try.pinned (OpenSpec.ofChange topoPathsWrong)

/-- 'timesynclaw18.TopoWays': WHATEVER THE INPUT: true; the input reads as it did. -/
def topoWaysSpec : ChangeSpec := { name := "topoWays", fn := fun _ => fun
  | [d1, d2, d3] => { results := [.lit (.bool true)], args := [d1, d2, d3] }
  | _ => none }
def topoWaysRow : OpenClaim := { program := "ytgpgmoodfnamjaa", sum := "1848e158103043626087ef66ea707ac747f4924bc57d845e94a6b2109d7476c0", func := "timesync/timesynclaw18.TopoWays", spec := "topoWays", unfollowed := true, recurses := true, plainKeys := false, apart := false }
def TopoWaysSaid : Prop := topoWaysRow.holds Try.pinned (OpenSpec.ofChange topoWaysSpec)

/-- ITS FALSE NEIGHBOUR: 'it returns false'. Refute it at one input. -/
def topoWaysWrong : ChangeSpec := { name := "topoWays", fn := fun _ => fun
  | [d1, d2, d3] => { results := [.lit (.bool false)], args := [d1, d2, d3] }
  | _ => none }
def TopoWaysWrongFalsely : Prop := topoWaysRow.holds Try.pinned (OpenSpec.ofChange topoWaysWrong)

/-- 'timesynclaw18.TopoRenumbers': WHATEVER THE INPUT: true; the input reads as it did. -/
def topoRenumbersSpec : ChangeSpec := { name := "topoRenumbers", fn := fun _ => fun
  | [d1, d2] => { results := [.lit (.bool true)], args := [d1, d2] }
  | _ => none }
def topoRenumbersRow : OpenClaim := { program := "ytgpgmoodfnamjaa", sum := "1848e158103043626087ef66ea707ac747f4924bc57d845e94a6b2109d7476c0", func := "timesync/timesynclaw18.TopoRenumbers", spec := "topoRenumbers", unfollowed := true, recurses := true, plainKeys := false, apart := false }
def TopoRenumbersSaid : Prop := topoRenumbersRow.holds Try.pinned (OpenSpec.ofChange topoRenumbersSpec)

/-- ITS FALSE NEIGHBOUR: 'it returns false'. Refute it at one input. -/
def topoRenumbersWrong : ChangeSpec := { name := "topoRenumbers", fn := fun _ => fun
  | [d1, d2] => { results := [.lit (.bool false)], args := [d1, d2] }
  | _ => none }
def TopoRenumbersWrongFalsely : Prop := topoRenumbersRow.holds Try.pinned (OpenSpec.ofChange topoRenumbersWrong)

/-- 'timesynclaw18.TopoDistances': WHATEVER THE INPUT: true; the input reads as it did. -/
def topoDistancesSpec : ChangeSpec := { name := "topoDistances", fn := fun _ => fun
  | [d] => { results := [.lit (.bool true)], args := [d] }
  | _ => none }
def topoDistancesRow : OpenClaim := { program := "ytgpgmoodfnamjaa", sum := "1848e158103043626087ef66ea707ac747f4924bc57d845e94a6b2109d7476c0", func := "timesync/timesynclaw18.TopoDistances", spec := "topoDistances", unfollowed := true, recurses := true, plainKeys := false, apart := false }
def TopoDistancesSaid : Prop := topoDistancesRow.holds Try.pinned (OpenSpec.ofChange topoDistancesSpec)

/-- ITS FALSE NEIGHBOUR: 'it returns false'. Refute it at one input. -/
def topoDistancesWrong : ChangeSpec := { name := "topoDistances", fn := fun _ => fun
  | [d] => { results := [.lit (.bool false)], args := [d] }
  | _ => none }
def TopoDistancesWrongFalsely : Prop := topoDistancesRow.holds Try.pinned (OpenSpec.ofChange topoDistancesWrong)

/-- 'timesynclaw18.TopoPorts': WHATEVER THE INPUT: true; the input reads as it did. -/
def topoPortsSpec : ChangeSpec := { name := "topoPorts", fn := fun _ => fun
  | [d1, d2, d3] => { results := [.lit (.bool true)], args := [d1, d2, d3] }
  | _ => none }
def topoPortsRow : OpenClaim := { program := "ytgpgmoodfnamjaa", sum := "1848e158103043626087ef66ea707ac747f4924bc57d845e94a6b2109d7476c0", func := "timesync/timesynclaw18.TopoPorts", spec := "topoPorts", unfollowed := true, recurses := true, plainKeys := false, apart := false }
def TopoPortsSaid : Prop := topoPortsRow.holds Try.pinned (OpenSpec.ofChange topoPortsSpec)

/-- ITS FALSE NEIGHBOUR: 'it returns false'. Refute it at one input. -/
def topoPortsWrong : ChangeSpec := { name := "topoPorts", fn := fun _ => fun
  | [d1, d2, d3] => { results := [.lit (.bool false)], args := [d1, d2, d3] }
  | _ => none }
def TopoPortsWrongFalsely : Prop := topoPortsRow.holds Try.pinned (OpenSpec.ofChange topoPortsWrong)

/-- 'timesynclaw18.TopoPeers': WHATEVER THE INPUT: true; the input reads as it did. -/
def topoPeersSpec : ChangeSpec := { name := "topoPeers", fn := fun _ => fun
  | [d] => { results := [.lit (.bool true)], args := [d] }
  | _ => none }
def topoPeersRow : OpenClaim := { program := "ytgpgmoodfnamjaa", sum := "1848e158103043626087ef66ea707ac747f4924bc57d845e94a6b2109d7476c0", func := "timesync/timesynclaw18.TopoPeers", spec := "topoPeers", unfollowed := true, recurses := true, plainKeys := false, apart := false }
def TopoPeersSaid : Prop := topoPeersRow.holds Try.pinned (OpenSpec.ofChange topoPeersSpec)

/-- ITS FALSE NEIGHBOUR: 'it returns false'. Refute it at one input. -/
def topoPeersWrong : ChangeSpec := { name := "topoPeers", fn := fun _ => fun
  | [d] => { results := [.lit (.bool false)], args := [d] }
  | _ => none }
def TopoPeersWrongFalsely : Prop := topoPeersRow.holds Try.pinned (OpenSpec.ofChange topoPeersWrong)

/- THE SECOND FORM. 'bulk': how many values and letters a reading holds, each counted each time it is reached (what is shared counts as often as it is met; a slice's spare places count too). A statement '..UptoSaid' is the law's where the arguments, and the package variables that the reading takes, are together of bulk at most 1048576: NARROWER than '..Said'. Prove '..Said' where nothing that the law and all that it calls make is longer than what came in: it says more and counts as full. Else prove '..UptoSaid'. A law counts once. -/
mutual
def uptoBulk {H : Type} : DataW H → Nat
  | .lit (.string bytes) => bytes.length + 1
  | .lit _ => 1
  | .nil => 1
  | .ptr d => uptoBulk d + 1
  | .slice elems spare => uptoBulkAll elems + uptoBulkAll spare + 1
  | .agg parts => uptoBulkAll parts + 1
  | .iface _ d => uptoBulk d + 1
  | .map entries => uptoBulkEntries entries + 1
  | .held _ => 1
def uptoBulkAll {H : Type} : List (DataW H) → Nat
  | [] => 0
  | d :: r => uptoBulk d + uptoBulkAll r
def uptoBulkEntries {H : Type} : List (Lit × DataW H) → Nat
  | [] => 0
  | x :: r => uptoBulkEntry x + uptoBulkEntries r
def uptoBulkEntry {H : Type} : Lit × DataW H → Nat
  | (.string bytes, d) => bytes.length + uptoBulk d + 1
  | (_, d) => uptoBulk d + 1
 end
def uptoSmall : (H : Type) → List (DataW H) → Bool := fun _ ds => decide (uptoBulkAll ds ≤ 1048576)
def OpenSpec.upto (s : _root_.Go.ChangeSpec) : _root_.Go.OpenSpec := { _root_.Go.OpenSpec.ofChange s with cond := some uptoSmall }

/-- 'timesynclaw18.TopoChecks', WHERE WHAT IT READS IS OF BULK AT MOST 1048576: true; the input reads as it did. -/
def topoChecksUptoRow : OpenClaim := { program := "ytgpgmoodfnamjaa", sum := "1848e158103043626087ef66ea707ac747f4924bc57d845e94a6b2109d7476c0", func := "timesync/timesynclaw18.TopoChecks", spec := "topoChecks", unfollowed := true, recurses := true, plainKeys := false, apart := false, narrowed := true }
def TopoChecksUptoSaid : Prop := topoChecksUptoRow.holds Try.pinned (OpenSpec.upto topoChecksSpec)

/-- 'timesynclaw18.TopoPaths', WHERE WHAT IT READS IS OF BULK AT MOST 1048576: true; the input reads as it did. -/
def topoPathsUptoRow : OpenClaim := { program := "ytgpgmoodfnamjaa", sum := "1848e158103043626087ef66ea707ac747f4924bc57d845e94a6b2109d7476c0", func := "timesync/timesynclaw18.TopoPaths", spec := "topoPaths", unfollowed := true, recurses := true, plainKeys := false, apart := false, narrowed := true }
def TopoPathsUptoSaid : Prop := topoPathsUptoRow.holds Try.pinned (OpenSpec.upto topoPathsSpec)

/-- 'timesynclaw18.TopoWays', WHERE WHAT IT READS IS OF BULK AT MOST 1048576: true; the input reads as it did. -/
def topoWaysUptoRow : OpenClaim := { program := "ytgpgmoodfnamjaa", sum := "1848e158103043626087ef66ea707ac747f4924bc57d845e94a6b2109d7476c0", func := "timesync/timesynclaw18.TopoWays", spec := "topoWays", unfollowed := true, recurses := true, plainKeys := false, apart := false, narrowed := true }
def TopoWaysUptoSaid : Prop := topoWaysUptoRow.holds Try.pinned (OpenSpec.upto topoWaysSpec)

/-- 'timesynclaw18.TopoRenumbers', WHERE WHAT IT READS IS OF BULK AT MOST 1048576: true; the input reads as it did. -/
def topoRenumbersUptoRow : OpenClaim := { program := "ytgpgmoodfnamjaa", sum := "1848e158103043626087ef66ea707ac747f4924bc57d845e94a6b2109d7476c0", func := "timesync/timesynclaw18.TopoRenumbers", spec := "topoRenumbers", unfollowed := true, recurses := true, plainKeys := false, apart := false, narrowed := true }
def TopoRenumbersUptoSaid : Prop := topoRenumbersUptoRow.holds Try.pinned (OpenSpec.upto topoRenumbersSpec)

/-- 'timesynclaw18.TopoDistances', WHERE WHAT IT READS IS OF BULK AT MOST 1048576: true; the input reads as it did. -/
def topoDistancesUptoRow : OpenClaim := { program := "ytgpgmoodfnamjaa", sum := "1848e158103043626087ef66ea707ac747f4924bc57d845e94a6b2109d7476c0", func := "timesync/timesynclaw18.TopoDistances", spec := "topoDistances", unfollowed := true, recurses := true, plainKeys := false, apart := false, narrowed := true }
def TopoDistancesUptoSaid : Prop := topoDistancesUptoRow.holds Try.pinned (OpenSpec.upto topoDistancesSpec)

/-- 'timesynclaw18.TopoPorts', WHERE WHAT IT READS IS OF BULK AT MOST 1048576: true; the input reads as it did. -/
def topoPortsUptoRow : OpenClaim := { program := "ytgpgmoodfnamjaa", sum := "1848e158103043626087ef66ea707ac747f4924bc57d845e94a6b2109d7476c0", func := "timesync/timesynclaw18.TopoPorts", spec := "topoPorts", unfollowed := true, recurses := true, plainKeys := false, apart := false, narrowed := true }
def TopoPortsUptoSaid : Prop := topoPortsUptoRow.holds Try.pinned (OpenSpec.upto topoPortsSpec)

/-- 'timesynclaw18.TopoPeers', WHERE WHAT IT READS IS OF BULK AT MOST 1048576: true; the input reads as it did. -/
def topoPeersUptoRow : OpenClaim := { program := "ytgpgmoodfnamjaa", sum := "1848e158103043626087ef66ea707ac747f4924bc57d845e94a6b2109d7476c0", func := "timesync/timesynclaw18.TopoPeers", spec := "topoPeers", unfollowed := true, recurses := true, plainKeys := false, apart := false, narrowed := true }
def TopoPeersUptoSaid : Prop := topoPeersUptoRow.holds Try.pinned (OpenSpec.upto topoPeersSpec)

end Rows
end Go.Proofs.Ytgpgmoodfnamjaa
