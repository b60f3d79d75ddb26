/- Lemmas of a small executor for the model, and contracts of functions, used for the law that this claim proves. No condition. -/
import Derived.Test.YtgpgmoodfnamjaaBB17
import Derived.Test.YtgpgmoodfnamjaaBN18
import Derived.Test.YtgpgmoodfnamjaaBW3
set_option linter.unusedSimpArgs false
set_option linter.unusedVariables false
set_option maxRecDepth 100000
namespace Go.Vx.L18
open Go Go.Proofs
theorem wfk {k : IntKind} {n : Int} {a b : Int} (h : (Lit.int k n).wf = true) (ha : k.min = a) (hb : k.max = b) : a ≤ n ∧ n ≤ b := by
  simp only [Lit.wf, ha, hb, Bool.and_eq_true, decide_eq_true_eq] at h
  exact h
theorem topoWaysZ (n : Int) (l : List Ed) (cap : Option Nat) (hl : l.length ≤ maxLen) (a : Int) (ha : (Lit.int .u8 a).wf = true) (b : Int) (hb : (Lit.int .u8 b).wf = true) :
    Runs Try.prog 5 [gA n l cap, .val (.int .u8 a), .val (.int .u8 b)] [gB l] (Det (.sb true) [gB l]) := by
  have h1 : 0 ≤ a ∧ a ≤ 255 := wfk ha (by decide) (by decide)
  have h2 : 0 ≤ b ∧ b ≤ 255 := wfk hb (by decide) (by decide)
  exact topoWays n l cap hl a b h1 h2
end Go.Vx.L18
