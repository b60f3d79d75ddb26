/- Lemmas of a small executor for the model, and contracts of functions, used for the law that this claim proves. No condition. -/
import Derived.Test.YtodbfpjjahpahaaGreatDoorCEAC
import Derived.Test.YtodbfpjjahpahaaGreatDoorCEPA
set_option linter.unusedSimpArgs false
set_option linter.unusedVariables false
/- Distances of the graph are distances of the network; results and expected results. -/
set_option maxRecDepth 100000
namespace Go.Vx.L58
open Go Go.Proofs
variable {ns : List Nd} {l : List Ed}
end Go.Vx.L58
