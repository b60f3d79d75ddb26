/-
  No cell of these rows narrows 'for every input' (looked for: loops, veiled, ifaces, maps, wideKeys, modest, calm, conditions, laid).
  DERIVED. THE GIVEN ROWS OF THIS SEAT. 7 by the template 'for every input the law returns true; each argument reads behind the call as it read before'; 0 by the template 'total and deterministic' (their statements: YtblcjjlggfpehaaTotals.lean).
  GIVEN WITH THE SEED: the statements are not yours to turn. If you find one false, say at which input.
  Laid BY PROGRAM, IN A SANDBOX (cutbox-rows.mjs): the forced cells as the released guide's own fill.sh prints them over the translation 383ae4d99fd15e22… (all of the seat's roots in one cut). By AI agents, Wed Nov 11 2026. No macro, syntax, notation, axiom, sorry.
-/
import Derived.Test.YtblcjjlggfpehaaChecked
import GoSem.Claim
import GoSem.ClaimJoined
import GoSem.ClaimMapViews
import Derived.JoinedTies
import Derived.KernelRfl
namespace Go.Proofs.Ytblcjjlggfpehaa
/- THE CELL 'sum', in the pinned program and in every row, IS THE sha256 OF THE DUMP (.gsa) THAT YtblcjjlggfpehaaProg.lean LOADS. Nothing in Lean hashes anything: it is a label: what it is worth is what the hold of that sum in a sandbox is worth. -/
noncomputable def Try.pinned : Pinned := { name := "ytblcjjlggfpehaa", sum := "383ae4d99fd15e220c61717e0a269ec91e9dd949072f127c5034813eb7e07247", checked := Try.checked }
namespace Rows
def none {H : Type} : Left H := { results := [], args := [] }

/-- 'timesynclaw53.OffsetsSystems': WHATEVER THE INPUT: true; the input reads as it did. -/
def offsetsSystemsSpec : ChangeSpec := { name := "offsetsSystems", fn := fun _ => fun
  | [d1, d2] => { results := [.lit (.bool true)], args := [d1, d2] }
  | _ => none }
def offsetsSystemsRow : OpenClaim := { program := "ytblcjjlggfpehaa", sum := "383ae4d99fd15e220c61717e0a269ec91e9dd949072f127c5034813eb7e07247", func := "timesync/timesynclaw53.OffsetsSystems", spec := "offsetsSystems", named := ["math/bits.divideError", "math/bits.overflowError"], plainKeys := false, apart := false }
def OffsetsSystemsSaid : Prop := offsetsSystemsRow.holds Try.pinned (OpenSpec.ofChange offsetsSystemsSpec)

/-- ITS FALSE NEIGHBOUR: 'it returns false'. Refute it at one input. -/
def offsetsSystemsWrong : ChangeSpec := { name := "offsetsSystems", fn := fun _ => fun
  | [d1, d2] => { results := [.lit (.bool false)], args := [d1, d2] }
  | _ => none }
def OffsetsSystemsWrongFalsely : Prop := offsetsSystemsRow.holds Try.pinned (OpenSpec.ofChange offsetsSystemsWrong)

/-- 'timesynclaw53.OffsetsBounds': WHATEVER THE INPUT: true; the input reads as it did. -/
def offsetsBoundsSpec : ChangeSpec := { name := "offsetsBounds", fn := fun _ => fun
  | [d1, d2] => { results := [.lit (.bool true)], args := [d1, d2] }
  | _ => none }
def offsetsBoundsRow : OpenClaim := { program := "ytblcjjlggfpehaa", sum := "383ae4d99fd15e220c61717e0a269ec91e9dd949072f127c5034813eb7e07247", func := "timesync/timesynclaw53.OffsetsBounds", spec := "offsetsBounds", named := ["math/bits.divideError", "math/bits.overflowError"], plainKeys := false, apart := false }
def OffsetsBoundsSaid : Prop := offsetsBoundsRow.holds Try.pinned (OpenSpec.ofChange offsetsBoundsSpec)

/-- ITS FALSE NEIGHBOUR: 'it returns false'. Refute it at one input. -/
def offsetsBoundsWrong : ChangeSpec := { name := "offsetsBounds", fn := fun _ => fun
  | [d1, d2] => { results := [.lit (.bool false)], args := [d1, d2] }
  | _ => none }
def OffsetsBoundsWrongFalsely : Prop := offsetsBoundsRow.holds Try.pinned (OpenSpec.ofChange offsetsBoundsWrong)

/-- 'timesynclaw53.OffsetsMore': WHATEVER THE INPUT: true; the input reads as it did. -/
def offsetsMoreSpec : ChangeSpec := { name := "offsetsMore", fn := fun _ => fun
  | [d1, d2, d3] => { results := [.lit (.bool true)], args := [d1, d2, d3] }
  | _ => none }
def offsetsMoreRow : OpenClaim := { program := "ytblcjjlggfpehaa", sum := "383ae4d99fd15e220c61717e0a269ec91e9dd949072f127c5034813eb7e07247", func := "timesync/timesynclaw53.OffsetsMore", spec := "offsetsMore", named := ["math/bits.divideError", "math/bits.overflowError"], plainKeys := false, apart := false }
def OffsetsMoreSaid : Prop := offsetsMoreRow.holds Try.pinned (OpenSpec.ofChange offsetsMoreSpec)

/-- ITS FALSE NEIGHBOUR: 'it returns false'. Refute it at one input. -/
def offsetsMoreWrong : ChangeSpec := { name := "offsetsMore", fn := fun _ => fun
  | [d1, d2, d3] => { results := [.lit (.bool false)], args := [d1, d2, d3] }
  | _ => none }
def OffsetsMoreWrongFalsely : Prop := offsetsMoreRow.holds Try.pinned (OpenSpec.ofChange offsetsMoreWrong)

/-- 'timesynclaw53.OffsetsConsistent': WHATEVER THE INPUT: true; the input reads as it did. -/
def offsetsConsistentSpec : ChangeSpec := { name := "offsetsConsistent", fn := fun _ => fun
  | [d1, d2, d3] => { results := [.lit (.bool true)], args := [d1, d2, d3] }
  | _ => none }
def offsetsConsistentRow : OpenClaim := { program := "ytblcjjlggfpehaa", sum := "383ae4d99fd15e220c61717e0a269ec91e9dd949072f127c5034813eb7e07247", func := "timesync/timesynclaw53.OffsetsConsistent", spec := "offsetsConsistent", named := ["math/bits.divideError", "math/bits.overflowError"], plainKeys := false, apart := false }
def OffsetsConsistentSaid : Prop := offsetsConsistentRow.holds Try.pinned (OpenSpec.ofChange offsetsConsistentSpec)

/-- ITS FALSE NEIGHBOUR: 'it returns false'. Refute it at one input. -/
def offsetsConsistentWrong : ChangeSpec := { name := "offsetsConsistent", fn := fun _ => fun
  | [d1, d2, d3] => { results := [.lit (.bool false)], args := [d1, d2, d3] }
  | _ => none }
def OffsetsConsistentWrongFalsely : Prop := offsetsConsistentRow.holds Try.pinned (OpenSpec.ofChange offsetsConsistentWrong)

/-- 'timesynclaw53.OffsetsBlames': WHATEVER THE INPUT: true; the input reads as it did. -/
def offsetsBlamesSpec : ChangeSpec := { name := "offsetsBlames", fn := fun _ => fun
  | [d1, d2] => { results := [.lit (.bool true)], args := [d1, d2] }
  | _ => none }
def offsetsBlamesRow : OpenClaim := { program := "ytblcjjlggfpehaa", sum := "383ae4d99fd15e220c61717e0a269ec91e9dd949072f127c5034813eb7e07247", func := "timesync/timesynclaw53.OffsetsBlames", spec := "offsetsBlames", recurses := true, named := ["math/bits.divideError", "math/bits.overflowError"], plainKeys := false, apart := false }
def OffsetsBlamesSaid : Prop := offsetsBlamesRow.holds Try.pinned (OpenSpec.ofChange offsetsBlamesSpec)

/-- ITS FALSE NEIGHBOUR: 'it returns false'. Refute it at one input. -/
def offsetsBlamesWrong : ChangeSpec := { name := "offsetsBlames", fn := fun _ => fun
  | [d1, d2] => { results := [.lit (.bool false)], args := [d1, d2] }
  | _ => none }
def OffsetsBlamesWrongFalsely : Prop := offsetsBlamesRow.holds Try.pinned (OpenSpec.ofChange offsetsBlamesWrong)

/-- 'timesynclaw53.OffsetsWitnesses': WHATEVER THE INPUT: true; the input reads as it did. -/
def offsetsWitnessesSpec : ChangeSpec := { name := "offsetsWitnesses", fn := fun _ => fun
  | [d1, d2, d3] => { results := [.lit (.bool true)], args := [d1, d2, d3] }
  | _ => none }
def offsetsWitnessesRow : OpenClaim := { program := "ytblcjjlggfpehaa", sum := "383ae4d99fd15e220c61717e0a269ec91e9dd949072f127c5034813eb7e07247", func := "timesync/timesynclaw53.OffsetsWitnesses", spec := "offsetsWitnesses", recurses := true, named := ["math/bits.divideError", "math/bits.overflowError"], plainKeys := false, apart := false }
def OffsetsWitnessesSaid : Prop := offsetsWitnessesRow.holds Try.pinned (OpenSpec.ofChange offsetsWitnessesSpec)

/-- ITS FALSE NEIGHBOUR: 'it returns false'. Refute it at one input. -/
def offsetsWitnessesWrong : ChangeSpec := { name := "offsetsWitnesses", fn := fun _ => fun
  | [d1, d2, d3] => { results := [.lit (.bool false)], args := [d1, d2, d3] }
  | _ => none }
def OffsetsWitnessesWrongFalsely : Prop := offsetsWitnessesRow.holds Try.pinned (OpenSpec.ofChange offsetsWitnessesWrong)

/-- 'timesynclaw53.OffsetsTight': WHATEVER THE INPUT: true; the input reads as it did. -/
def offsetsTightSpec : ChangeSpec := { name := "offsetsTight", fn := fun _ => fun
  | [d1, d2, d3] => { results := [.lit (.bool true)], args := [d1, d2, d3] }
  | _ => none }
def offsetsTightRow : OpenClaim := { program := "ytblcjjlggfpehaa", sum := "383ae4d99fd15e220c61717e0a269ec91e9dd949072f127c5034813eb7e07247", func := "timesync/timesynclaw53.OffsetsTight", spec := "offsetsTight", recurses := true, named := ["math/bits.divideError", "math/bits.overflowError"], plainKeys := false, apart := false }
def OffsetsTightSaid : Prop := offsetsTightRow.holds Try.pinned (OpenSpec.ofChange offsetsTightSpec)

/-- ITS FALSE NEIGHBOUR: 'it returns false'. Refute it at one input. -/
def offsetsTightWrong : ChangeSpec := { name := "offsetsTight", fn := fun _ => fun
  | [d1, d2, d3] => { results := [.lit (.bool false)], args := [d1, d2, d3] }
  | _ => none }
def OffsetsTightWrongFalsely : Prop := offsetsTightRow.holds Try.pinned (OpenSpec.ofChange offsetsTightWrong)

/- THE SECOND FORM. 'bulk': how many values and letters a reading holds, each counted each time it is reached (what is shared counts as often as it is met; a slice's spare places count too). A statement '..UptoSaid' is the law's where the arguments, and the package variables that the reading takes, are together of bulk at most 1048576: NARROWER than '..Said'. Prove '..Said' where nothing that the law and all that it calls make is longer than what came in: it says more and counts as full. Else prove '..UptoSaid'. A law counts once. -/
mutual
def uptoBulk {H : Type} : DataW H → Nat
  | .lit (.string bytes) => bytes.length + 1
  | .lit _ => 1
  | .nil => 1
  | .ptr d => uptoBulk d + 1
  | .slice elems spare => uptoBulkAll elems + uptoBulkAll spare + 1
  | .agg parts => uptoBulkAll parts + 1
  | .iface _ d => uptoBulk d + 1
  | .map entries => uptoBulkEntries entries + 1
  | .held _ => 1
def uptoBulkAll {H : Type} : List (DataW H) → Nat
  | [] => 0
  | d :: r => uptoBulk d + uptoBulkAll r
def uptoBulkEntries {H : Type} : List (Lit × DataW H) → Nat
  | [] => 0
  | x :: r => uptoBulkEntry x + uptoBulkEntries r
def uptoBulkEntry {H : Type} : Lit × DataW H → Nat
  | (.string bytes, d) => bytes.length + uptoBulk d + 1
  | (_, d) => uptoBulk d + 1
 end
def uptoSmall : (H : Type) → List (DataW H) → Bool := fun _ ds => decide (uptoBulkAll ds ≤ 1048576)
def OpenSpec.upto (s : _root_.Go.ChangeSpec) : _root_.Go.OpenSpec := { _root_.Go.OpenSpec.ofChange s with cond := some uptoSmall }

/-- 'timesynclaw53.OffsetsSystems', WHERE WHAT IT READS IS OF BULK AT MOST 1048576: true; the input reads as it did. -/
def offsetsSystemsUptoRow : OpenClaim := { program := "ytblcjjlggfpehaa", sum := "383ae4d99fd15e220c61717e0a269ec91e9dd949072f127c5034813eb7e07247", func := "timesync/timesynclaw53.OffsetsSystems", spec := "offsetsSystems", named := ["math/bits.divideError", "math/bits.overflowError"], plainKeys := false, apart := false, narrowed := true }
def OffsetsSystemsUptoSaid : Prop := offsetsSystemsUptoRow.holds Try.pinned (OpenSpec.upto offsetsSystemsSpec)

/-- 'timesynclaw53.OffsetsBounds', WHERE WHAT IT READS IS OF BULK AT MOST 1048576: true; the input reads as it did. -/
def offsetsBoundsUptoRow : OpenClaim := { program := "ytblcjjlggfpehaa", sum := "383ae4d99fd15e220c61717e0a269ec91e9dd949072f127c5034813eb7e07247", func := "timesync/timesynclaw53.OffsetsBounds", spec := "offsetsBounds", named := ["math/bits.divideError", "math/bits.overflowError"], plainKeys := false, apart := false, narrowed := true }
def OffsetsBoundsUptoSaid : Prop := offsetsBoundsUptoRow.holds Try.pinned (OpenSpec.upto offsetsBoundsSpec)

/-- 'timesynclaw53.OffsetsMore', WHERE WHAT IT READS IS OF BULK AT MOST 1048576: true; the input reads as it did. -/
def offsetsMoreUptoRow : OpenClaim := { program := "ytblcjjlggfpehaa", sum := "383ae4d99fd15e220c61717e0a269ec91e9dd949072f127c5034813eb7e07247", func := "timesync/timesynclaw53.OffsetsMore", spec := "offsetsMore", named := ["math/bits.divideError", "math/bits.overflowError"], plainKeys := false, apart := false, narrowed := true }
def OffsetsMoreUptoSaid : Prop := offsetsMoreUptoRow.holds Try.pinned (OpenSpec.upto offsetsMoreSpec)

/-- 'timesynclaw53.OffsetsConsistent', WHERE WHAT IT READS IS OF BULK AT MOST 1048576: true; the input reads as it did. -/
def offsetsConsistentUptoRow : OpenClaim := { program := "ytblcjjlggfpehaa", sum := "383ae4d99fd15e220c61717e0a269ec91e9dd949072f127c5034813eb7e07247", func := "timesync/timesynclaw53.OffsetsConsistent", spec := "offsetsConsistent", named := ["math/bits.divideError", "math/bits.overflowError"], plainKeys := false, apart := false, narrowed := true }
def OffsetsConsistentUptoSaid : Prop := offsetsConsistentUptoRow.holds Try.pinned (OpenSpec.upto offsetsConsistentSpec)

/-- 'timesynclaw53.OffsetsBlames', WHERE WHAT IT READS IS OF BULK AT MOST 1048576: true; the input reads as it did. -/
def offsetsBlamesUptoRow : OpenClaim := { program := "ytblcjjlggfpehaa", sum := "383ae4d99fd15e220c61717e0a269ec91e9dd949072f127c5034813eb7e07247", func := "timesync/timesynclaw53.OffsetsBlames", spec := "offsetsBlames", recurses := true, named := ["math/bits.divideError", "math/bits.overflowError"], plainKeys := false, apart := false, narrowed := true }
def OffsetsBlamesUptoSaid : Prop := offsetsBlamesUptoRow.holds Try.pinned (OpenSpec.upto offsetsBlamesSpec)

/-- 'timesynclaw53.OffsetsWitnesses', WHERE WHAT IT READS IS OF BULK AT MOST 1048576: true; the input reads as it did. -/
def offsetsWitnessesUptoRow : OpenClaim := { program := "ytblcjjlggfpehaa", sum := "383ae4d99fd15e220c61717e0a269ec91e9dd949072f127c5034813eb7e07247", func := "timesync/timesynclaw53.OffsetsWitnesses", spec := "offsetsWitnesses", recurses := true, named := ["math/bits.divideError", "math/bits.overflowError"], plainKeys := false, apart := false, narrowed := true }
def OffsetsWitnessesUptoSaid : Prop := offsetsWitnessesUptoRow.holds Try.pinned (OpenSpec.upto offsetsWitnessesSpec)

/-- 'timesynclaw53.OffsetsTight', WHERE WHAT IT READS IS OF BULK AT MOST 1048576: true; the input reads as it did. -/
def offsetsTightUptoRow : OpenClaim := { program := "ytblcjjlggfpehaa", sum := "383ae4d99fd15e220c61717e0a269ec91e9dd949072f127c5034813eb7e07247", func := "timesync/timesynclaw53.OffsetsTight", spec := "offsetsTight", recurses := true, named := ["math/bits.divideError", "math/bits.overflowError"], plainKeys := false, apart := false, narrowed := true }
def OffsetsTightUptoSaid : Prop := offsetsTightUptoRow.holds Try.pinned (OpenSpec.upto offsetsTightSpec)

end Rows
end Go.Proofs.Ytblcjjlggfpehaa
