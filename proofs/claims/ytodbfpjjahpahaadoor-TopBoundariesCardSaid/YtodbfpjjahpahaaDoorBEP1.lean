/- Lemmas of a small executor for the model, and contracts of functions, used for the law that this claim proves. No condition. -/
import Derived.Test.YtodbfpjjahpahaaDoorBEAA
import Derived.Test.YtodbfpjjahpahaaDoorBGBA
import Derived.Test.YtodbfpjjahpahaaDoorBGA
set_option linter.unusedSimpArgs false
set_option linter.unusedVariables false
set_option maxRecDepth 100000
namespace Go.Vx.L42
open Go Go.Proofs
def a08 (ns : List Nd) (l : List Ed) : NetP where
 n := ns.length
 id := fun x => (ns.getD x nd0).id
 ow := fun x => owD (ns.getD x nd0)
 pe := fun x p => if (a1r ns.length l x p).2.2 = true then some ((a1r ns.length l x p).1.toNat, (a1r ns.length l x p).2.1.toNat) else none
end Go.Vx.L42
