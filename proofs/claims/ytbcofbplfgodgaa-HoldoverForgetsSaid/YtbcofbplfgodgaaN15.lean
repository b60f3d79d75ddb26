/- Lemmas of a small executor for the model, and contracts of functions, used for the law that this claim proves. No condition. -/
import Derived.Test.YtbcofbplfgodgaaR12
import Derived.Test.YtbcofbplfgodgaaRows
set_option linter.unusedSimpArgs false
set_option linter.unusedVariables false
set_option maxRecDepth 100000
namespace Go.Vx.L14
open Go Go.Proofs Go.Proofs.Ytbcofbplfgodgaa
open Go.ChangeShapes Go.WideShapes Go.RowKit Go.Deep
theorem own : ownKnob Try.prog.godebug = none := by kernel_rfl
theorem laid : laidOutB Try.prog = true := by kernel_rfl
section
variable {H : Type} {enc : TypeId × Value → H} {W : World} {base : Nat} {v : Value} {d : DataW H} {p : List MemPlace}
theorem opa_cf (hval : Value.okWide Try.prog W .any base 23 v) (hd : DataW.Trod enc Try.prog W 0 (fun _ => true) true 23 v d p) : ∃ c : Cf, OpA W [v] [] (fun _ => [cfA c]) [] := by
  obtain ⟨cs, rfl, _⟩ := okWide_struct Try.underlying23 hval
  obtain ⟨fuel, hf⟩ := hd
  have hk := flat_trod 3 23 [.int .i64, .int .i64, .int .i64, .int .i64] _ _ _ (by kernel_rfl) hf
  have hk0 := hk
  simp only [Value.cells] at hk hk0
  obtain ⟨u0, r0, e0, ⟨z0, rfl, _⟩, hk1⟩ := hk.cons
  obtain ⟨u1, r1, rfl, ⟨z1, rfl, _⟩, hk2⟩ := hk1.cons
  obtain ⟨u2, r2, rfl, ⟨z2, rfl, _⟩, hk3⟩ := hk2.cons
  obtain ⟨u3, r3, rfl, ⟨z3, rfl, _⟩, hk4⟩ := hk3.cons
  obtain rfl := hk4.nil
  exact ⟨⟨z0, z1, z2, z3⟩, opa_flat hk0 fun ι => by rw [e0]; exact ⟨_, _, rfl, rfl, ⟨_, _, rfl, rfl, ⟨_, _, rfl, rfl, ⟨_, _, rfl, rfl, rfl⟩⟩⟩⟩⟩
theorem opa_ops (hval : Value.okWide Try.prog W .any base 32 v) (hd : DataW.Trod enc Try.prog W 0 (fun _ => true) true 32 v d p) :
    ∃ (l : List Opn) (cap : Option Nat) (_ : l.length ≤ maxLen) (o : Option Loc), OpA W [v] [o] (fun b => [.sl b 3 0 l.length cap]) [opB l] := by
  obtain ⟨a, len, cap, rfl⟩ := okWide_slice Try.underlying32 hval
  obtain ⟨fuel, hf⟩ := hd
  obtain ⟨l, cap', o, hl, hm, h⟩ := opn_list (cells := opC) (d := ⟨0, 0, 0⟩) (ks := [.int .u8, .int .i64, .int .i64]) (n0 := 3) Try.underlying32 (by kernel_rfl) (by kernel_rfl) (by decide)
    (fun F => ⟨intOf (F 0), intOf (F 1), intOf (F 2)⟩) (fun F hF ι j hj => by
      obtain ⟨z0, e0, _⟩ := hF 0 _ rfl
      obtain ⟨z1, e1, _⟩ := hF 1 _ rfl
      obtain ⟨z2, e2, _⟩ := hF 2 _ rfl
      rcases j with _ | _ | _ | j
      all_goals first | (simp only [opC, nth, e0, e1, e2, intOf, rel]; done) | (simp at hj; omega)) hf
  exact ⟨l, cap', hl, o, h.1⟩
theorem opa_ints (hval : Value.okWide Try.prog W .any base 45 v) (hd : DataW.Trod enc Try.prog W 0 (fun _ => true) true 45 v d p) :
    ∃ (l : List Int) (cap : Option Nat) (_ : l.length ≤ maxLen) (o : Option Loc), OpA W [v] [o] (fun b => [.sl b 1 0 l.length cap]) [.arr false 3 1 l.length (intF l)] := by
  obtain ⟨a, len, cap, rfl⟩ := okWide_slice Try.underlying45 hval
  obtain ⟨fuel, hf⟩ := hd
  obtain ⟨l, cap', o, hl, hm, h⟩ := opn_list (cells := intC) (d := 0) (ks := [.int .i64]) (n0 := 3) Try.underlying45 (by kernel_rfl) (by kernel_rfl) (by decide)
    (fun F => intOf (F 0)) (fun F hF ι j hj => by
      obtain ⟨z0, e0, _⟩ := hF 0 _ rfl
      rcases j with _ | j
      all_goals first | (simp only [intC, nth, e0, intOf, rel]; done) | (simp at hj; omega)) hf
  exact ⟨l, cap', hl, o, h.1⟩
end
end Go.Vx.L14
