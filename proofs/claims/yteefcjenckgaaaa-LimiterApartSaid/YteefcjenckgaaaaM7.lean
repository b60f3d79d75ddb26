/- Lemmas of a small executor for the model, and contracts of functions, used for the law that this claim proves. No condition. -/
import Derived.Test.YteefcjenckgaaaaM6a
import Derived.Test.YteefcjenckgaaaaM6b
set_option linter.unusedSimpArgs false
set_option linter.unusedVariables false
set_option maxRecDepth 100000
namespace Go.Vx.L28
open Go Go.Proofs
theorem rask_ok (c : Cf) (s : RS) (n t : Int) (hc : cfOK c = true) (hs : RInv c s) :
    Runs Try.prog 16 [.ptr 0 7 0 0, .val (.int .i64 n), .val (.int .i64 t)] [memL c s, arrL s] (Det (.tup [.val (.int .i64 (raskF c s n t).1.1), .val (.int .i64 (raskF c s n t).1.2)]) [memL2 c (raskF c s n t).2, .gone, arrL (raskF c s n t).2]) := by
  cases hk : findC n s.l with
  | none => exact rask_none c s n t hc hs hk
  | some k => exact rask_some c s n t hc hs k hk
end Go.Vx.L28
