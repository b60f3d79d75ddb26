/- Lemmas of a small executor for the model, and contracts of functions, used for the law that this claim proves. No condition. -/
import Derived.Test.YteefcjenckgaaaaM9
import Derived.Test.YteefcjenckgaaaaW2
import Derived.Test.YteefcjenckgaaaaRows
set_option linter.unusedSimpArgs false
set_option linter.unusedVariables false
set_option maxRecDepth 100000
namespace Go.Vx.L28
open Go Go.Proofs Go.Proofs.Yteefcjenckgaaaa
open Go.ChangeShapes Go.WideShapes Go.RowKit Go.Deep
theorem own : ownKnob Try.prog.godebug = none := by kernel_rfl
theorem laid : laidOutB Try.prog = true := by kernel_rfl
theorem wf_i64 {z : Int} (h : (Lit.int .i64 z).wf = true) : -9223372036854775808 ≤ z ∧ z ≤ 9223372036854775807 := by
  have e1 : IntKind.i64.min = -9223372036854775808 := by decide
  have e2 : IntKind.i64.max = 9223372036854775807 := by decide
  simp only [Lit.wf, e1, e2, Bool.and_eq_true, decide_eq_true_eq] at h
  exact h
/-- A request: the client, the time. -/
abbrev Rq := Int × Int
def rqC (p : Rq) : List AV := [.val (.int .i64 p.1), .val (.int .i64 p.2)]
abbrev rqF (l : List Rq) : Nat → Nat → AV := rowF rqC (0, 0) l
section
variable {H : Type} {enc : TypeId × Value → H} {W : World} {base : Nat} {v : Value} {d : DataW H} {p : List MemPlace}
theorem opa_cf (hval : Value.okWide Try.prog W .any base 23 v) (hd : DataW.Trod enc Try.prog W 0 (fun _ => true) true 23 v d p) : ∃ c : Cf, OpA W [v] [] (fun _ => [cfA c]) [] := by
  obtain ⟨cs, rfl, _⟩ := okWide_struct Try.underlying23 hval
  obtain ⟨fuel, hf⟩ := hd
  have hk := flat_trod 3 23 [.int .i64, .int .i64, .int .i64, .int .i64, .int .i64] _ _ _ (by kernel_rfl) hf
  have hk0 := hk
  simp only [Value.cells] at hk hk0
  obtain ⟨u0, r0, e0, ⟨z0, rfl, _⟩, hk1⟩ := hk.cons
  obtain ⟨u1, r1, rfl, ⟨z1, rfl, _⟩, hk2⟩ := hk1.cons
  obtain ⟨u2, r2, rfl, ⟨z2, rfl, _⟩, hk3⟩ := hk2.cons
  obtain ⟨u3, r3, rfl, ⟨z3, rfl, _⟩, hk4⟩ := hk3.cons
  obtain ⟨u4, r4, rfl, ⟨z4, rfl, _⟩, hk5⟩ := hk4.cons
  obtain rfl := hk5.nil
  exact ⟨⟨z0, z1, z2, z3, z4⟩, opa_flat hk0 fun ι => by rw [e0]; exact ⟨_, _, rfl, rfl, ⟨_, _, rfl, rfl, ⟨_, _, rfl, rfl, ⟨_, _, rfl, rfl, ⟨_, _, rfl, rfl, rfl⟩⟩⟩⟩⟩⟩
theorem opa_reqs (hval : Value.okWide Try.prog W .any base 30 v) (hd : DataW.Trod enc Try.prog W 0 (fun _ => true) true 30 v d p) :
    ∃ (l : List Rq) (cap : Option Nat) (_ : l.length ≤ maxLen ∧ ∀ q ∈ l, q.1 ≤ 9223372036854775807) (o : Option Loc), OpA W [v] [o] (fun b => [.sl b 2 0 l.length cap]) [.arr false 36 2 l.length (rqF l)] := by
  obtain ⟨a, len, cap, rfl⟩ := okWide_slice Try.underlying30 hval
  obtain ⟨fuel, hf⟩ := hd
  obtain ⟨l, cap', o, hl, hm, h⟩ := opn_list (cells := rqC) (d := (0, 0)) (ks := [.int .i64, .int .i64]) (n0 := 3) Try.underlying30 (by kernel_rfl) (by kernel_rfl) (by decide)
    (fun F => (intOf (F 0), intOf (F 1))) (fun F hF ι j hj => by
      obtain ⟨z0, e0, _⟩ := hF 0 _ rfl
      obtain ⟨z1, e1, _⟩ := hF 1 _ rfl
      rcases j with _ | _ | j
      all_goals first | (simp only [rqC, nth, e0, e1, intOf, rel]; done) | (simp at hj; omega)) hf
  refine ⟨l, cap', ⟨hl, fun q hq => ?_⟩, o, h.1⟩
  obtain ⟨F, hF, rfl⟩ := hm q hq
  obtain ⟨z0, e0, w0⟩ := hF 0 _ rfl
  simp only [e0, intOf]; exact (wf_i64 w0).2
theorem opa_ints (hval : Value.okWide Try.prog W .any base 40 v) (hd : DataW.Trod enc Try.prog W 0 (fun _ => true) true 40 v d p) :
    ∃ (l : List Int) (cap : Option Nat) (_ : l.length ≤ maxLen) (o : Option Loc), OpA W [v] [o] (fun b => [.sl b 1 0 l.length cap]) [.arr false 3 1 l.length (intF l)] := by
  obtain ⟨a, len, cap, rfl⟩ := okWide_slice Try.underlying40 hval
  obtain ⟨fuel, hf⟩ := hd
  obtain ⟨l, cap', o, hl, hm, h⟩ := opn_list (cells := intC) (d := 0) (ks := [.int .i64]) (n0 := 3) Try.underlying40 (by kernel_rfl) (by kernel_rfl) (by decide)
    (fun F => intOf (F 0)) (fun F hF ι j hj => by
      obtain ⟨z0, e0, _⟩ := hF 0 _ rfl
      rcases j with _ | j
      all_goals first | (simp only [intC, nth, e0, intOf, rel]; done) | (simp at hj; omega)) hf
  exact ⟨l, cap', hl, o, h.1⟩
end
end Go.Vx.L28
