/- Lemmas of a small executor for the model, and contracts of functions, used for the law that this claim proves. No condition. -/
import Derived.Test.YtafojofaegmbnaaCN55
import Derived.Test.YtafojofaegmbnaaCW3
import Derived.Test.YtafojofaegmbnaaCF27
set_option linter.unusedSimpArgs false
set_option linter.unusedVariables false
set_option maxRecDepth 100000
namespace Go.Vx.L55
open Go Go.Proofs Go.Proofs.Ytafojofaegmbnaa
open Go.ChangeShapes Go.WideShapes Go.RowKit Go.Deep
section
variable {H : Type} {enc : TypeId × Value → H} {W : World} {base : Nat} {v : Value} {d : DataW H} {p : List MemPlace}
theorem opa_rows (hval : Value.okWide Try.prog W .any base 41 v) (hd : DataW.Trod enc Try.prog W 0 (fun _ => true) true 41 v d p) (hw : ∀ n ∈ d.weights Try.prog 41, n ≤ reachBytes) :
    ∃ (rs : List (List Int)) (cap : Option Nat) (_ : rs.length ≤ maxLen) (_ : ∀ i, (rs.getD i []).length ≤ 35184372088832) (o : Option Loc), OpA W [v] [o] (fun b => [.sl b 1 0 rs.length cap]) [rsB rs] := by
  obtain ⟨a, len, cap, rfl⟩ := okWide_slice Try.underlying41 hval
  obtain ⟨fuel, hf⟩ := hd
  obtain ⟨rs, cap', o, h1, h2, _, h⟩ := open_famrows (cells := intC) (d := 0) (ks := [.int .i64]) (n0 := 3) Try.underlying41 Try.underlying28 (by kernel_rfl) (by kernel_rfl) (by kernel_rfl) (by decide) 8 (by kernel_rfl)
    (fun F => intOf (F 0)) (fun F hF ι j hj => by
      obtain ⟨z0, e0, _⟩ := hF 0 _ rfl
      obtain rfl : j = 0 := by simp at hj; omega
      simp only [intC, nth, e0, intOf, rel]) hf hw
  refine ⟨rs, cap', h1, fun i => ?_, o, h.1⟩
  have := h2 i
  have hr : reachBytes = 140737488351232 := by decide
  omega
end
end Go.Vx.L55
