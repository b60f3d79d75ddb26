/- Lemmas of a small executor for the model, and contracts of functions, used for the law that this claim proves. No condition. -/
import Derived.Test.YtblcjjlggfpehaaC33
import Derived.Test.YtblcjjlggfpehaaN53
set_option linter.unusedSimpArgs false
set_option linter.unusedVariables false
set_option maxRecDepth 100000
namespace Go.Vx.L53
open Go Go.Proofs
theorem offsetsMoreZ (l : List En) (cap : Option Nat) (hl : l.length ≤ maxLen) (c : Cf) (cap2 : Option Nat) (hc : c.tol.length ≤ maxLen) (s : Int) (hs : (Lit.int .u8 s).wf = true) :
    Runs Try.prog 5 [aL l cap, aC c 1 cap2, .val (.int .u8 s)] [gL l, gT c] (Det (.sb true) [gL l, gT c]) :=
  offsetsMore l cap hl c cap2 hc s (wfk hs (by decide) (by decide))
end Go.Vx.L53
