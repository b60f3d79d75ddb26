/- Lemmas of a small executor for the model, and contracts of functions, used for the law that this claim proves. No condition. -/
import Derived.Test.YtgpgmoodfnamjaaBB21
import Derived.Test.YtgpgmoodfnamjaaBN18
import Derived.Test.YtgpgmoodfnamjaaBW3
set_option linter.unusedSimpArgs false
set_option linter.unusedVariables false
set_option maxRecDepth 100000
namespace Go.Vx.L18
open Go Go.Proofs
theorem wfk2 {k : IntKind} {n : Int} {a b : Int} (h : (Lit.int k n).wf = true) (ha : k.min = a) (hb : k.max = b) : a ≤ n ∧ n ≤ b := by
  simp only [Lit.wf, ha, hb, Bool.and_eq_true, decide_eq_true_eq] at h
  exact h
theorem topoRenumbersZ (n : Int) (l : List Ed) (cap : Option Nat) (hl : l.length ≤ maxLen) (b : Int) (hb : (Lit.int .u8 b).wf = true) :
    Runs Try.prog 6 [gA n l cap, .val (.int .u8 b)] [gB l] (Det (.sb true) [gB l]) :=
  topoRenumbers n l cap hl b (wfk2 hb (by decide) (by decide))
end Go.Vx.L18
