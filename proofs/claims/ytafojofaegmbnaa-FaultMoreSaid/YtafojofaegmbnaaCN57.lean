/- Lemmas of a small executor for the model, and contracts of functions, used for the law that this claim proves. No condition. -/
import Derived.Test.YtafojofaegmbnaaCN56
import Derived.Test.YtafojofaegmbnaaCF33
set_option linter.unusedSimpArgs false
set_option linter.unusedVariables false
set_option maxRecDepth 100000
namespace Go.Vx.L55
open Go Go.Proofs Go.Proofs.Ytafojofaegmbnaa
open Go.ChangeShapes Go.WideShapes Go.RowKit Go.Deep
section
variable {H : Type} {enc : TypeId × Value → H} {W : World} {base : Nat} {v : Value} {d : DataW H} {p : List MemPlace}
theorem opa_ftsS (hval : Value.okWide Try.prog W .any base 22 v) (hd : DataW.Trod enc Try.prog W 0 (fun _ => true) true 22 v d p) (hw : ∀ n ∈ d.weights Try.prog 22, n ≤ reachBytes) :
    ∃ (l : List Ft) (cap : Option Nat) (_ : l.length ≤ 3518437208780) (o : Option Loc), OpA W [v] [o] (fun b => [.sl b 5 0 l.length cap]) [fB l] := by
  obtain ⟨l, cap', _, o, h⟩ := opa_fts hval hd
  obtain ⟨a, len, cap, rfl⟩ := okWide_slice Try.underlying22 hval
  obtain ⟨fuel, hf⟩ := hd
  have h1 := slice_sized (e := 46) Try.underlying22 hf hw
  rw [opa_len h, show Try.prog.bytesOf 46 = 40 from by kernel_rfl, show reachBytes = 140737488351232 from by decide] at h1
  exact ⟨l, cap', by omega, o, h⟩
theorem opa_ft (hval : Value.okWide Try.prog W .any base 46 v) (hd : DataW.Trod enc Try.prog W 0 (fun _ => true) true 46 v d p) : ∃ (f : Ft), OpA W [v] [] (fun _ => [ftA f]) [] := by
  obtain ⟨cs, rfl, _⟩ := okWide_struct Try.underlying46 hval
  obtain ⟨fuel, hf⟩ := hd
  have hk := flat_trod 3 46 [.int .i64, .int .i64, .int .i64, .int .i64, .int .i64] _ _ _ (by kernel_rfl) hf
  have hk0 := hk
  simp only [Value.cells] at hk hk0
  obtain ⟨u0, r0, e0, ⟨z0, rfl, w0⟩, hk1⟩ := hk.cons
  obtain ⟨u1, r1, rfl, ⟨z1, rfl, w1⟩, hk2⟩ := hk1.cons
  obtain ⟨u2, r2, rfl, ⟨z2, rfl, w2⟩, hk3⟩ := hk2.cons
  obtain ⟨u3, r3, rfl, ⟨z3, rfl, w3⟩, hk4⟩ := hk3.cons
  obtain ⟨u4, r4, rfl, ⟨z4, rfl, w4⟩, hk5⟩ := hk4.cons
  obtain rfl := hk5.nil
  refine ⟨⟨z0, z1, z2, z3, z4⟩, opa_flat hk0 fun ι => ?_⟩
  rw [e0]
  refine ⟨_, _, rfl, rfl, ?_⟩
  repeat' (first | exact ⟨_, _, rfl, rfl, rfl⟩ | refine ⟨_, _, rfl, rfl, ?_⟩)
end
end Go.Vx.L55
