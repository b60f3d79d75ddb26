/- Lemmas of a small executor for the model, and contracts of functions, used for the law that this claim proves. No condition. -/
import Derived.Test.YtafojofaegmbnaaCN56
import Derived.Test.YtafojofaegmbnaaCF31
set_option linter.unusedSimpArgs false
set_option linter.unusedVariables false
set_option maxRecDepth 100000
namespace Go.Vx.L55
open Go Go.Proofs
theorem faultLeastZ (n : Int) (rs : List (List Int)) (c0 : Option Nat) (hn0 : rs.length ≤ maxLen) (hr : ∀ i, (rs.getD i []).length ≤ 35184372088832) (l : List Ft) (cap : Option Nat) (hl : l.length ≤ maxLen) (z : Int) (hz : (Lit.int .u32 z).wf = true) :
    Runs Try.prog 9 [.val (.int .i64 n), .sl 0 1 0 rs.length c0, .sl 1 5 0 l.length cap, .val (.int .u32 z)] [rsB rs, fB l] (Det (.sb true) [rsB rs, fB l]) := by
  have h : 0 ≤ z ∧ z ≤ 4294967295 := wfk hz (by decide) (by decide)
  obtain ⟨S, rfl⟩ := Int.eq_ofNat_of_zero_le h.1
  exact faultLeast n rs c0 hn0 hr l cap hl S (by omega)
end Go.Vx.L55
