/- Lemmas of a small executor for the model, and contracts of functions, used for the law that this claim proves. No condition. -/
import Derived.Test.YtodbfpjjahpahaaGreatDoorCE1
set_option linter.unusedSimpArgs false
set_option linter.unusedVariables false
/- Plain law of the election: the expected result, and the result after the rounds. -/
namespace Go.Vx.L58
/-- The expected master of a node among the first nodes, and its distance; d are the distances from the node. -/
def expX (ow : Nat → DS) (d : Nat → Int) (x : Nat) : Nat → Nat × Int
 | 0 => (x, 0)
 | i + 1 => if 0 ≤ d i ∧ lessD (ow i) (ow (expX ow d x i).1) = true then (i, d i) else expX ow d x i
end Go.Vx.L58
