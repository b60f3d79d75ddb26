/- Lemmas of a small executor for the model, and contracts of functions, used for the law that this claim proves. No condition. -/
import Derived.Test.YtpohlkhnilcfnaaFW2
import Derived.Test.YtpohlkhnilcfnaaFL0
import Derived.Test.YtpohlkhnilcfnaaFH7
set_option linter.unusedSimpArgs false
set_option linter.unusedVariables false
set_option maxRecDepth 100000
namespace Go.Vx.I23
open Go Go.Proofs Go.Proofs.Ytpohlkhnilcfnaa
open Go.ChangeShapes Go.WideShapes Go.RowKit Go.Deep
section
variable {H : Type} {enc : TypeId × Value → H} {W : World} {base : Nat} {v : Value} {d : DataW H} {p : List MemPlace}
theorem opa_cands (hval : Value.okWide Try.prog W .any base 44 v) (hd : DataW.Trod enc Try.prog W 0 (fun _ => true) true 44 v d p) :
    ∃ (l : List Cd) (cap : Option Nat) (o : Option Loc), OpA W [v] [o] (fun b => [.sl b 5 0 l.length cap]) [.arr false 53 5 l.length (cdF l)] := by
  obtain ⟨a, len, cap, rfl⟩ := okWide_slice Try.underlying44 hval
  obtain ⟨fuel, hf⟩ := hd
  obtain ⟨l, cap', o, _, _, h⟩ := opn_list (cells := cdC) (d := cd0) (ks := [.int .i64, .int .i64, .int .i64, .int .i64, .int .i64]) (n0 := 3) Try.underlying44 (by kernel_rfl) (by kernel_rfl) (by decide)
    (fun F => ⟨intOf (F 0), intOf (F 1), intOf (F 2), intOf (F 3), intOf (F 4)⟩) (fun F hF ι j hj => by
      obtain ⟨z0, e0, _⟩ := hF 0 _ rfl
      obtain ⟨z1, e1, _⟩ := hF 1 _ rfl
      obtain ⟨z2, e2, _⟩ := hF 2 _ rfl
      obtain ⟨z3, e3, _⟩ := hF 3 _ rfl
      obtain ⟨z4, e4, _⟩ := hF 4 _ rfl
      rcases j with _ | _ | _ | _ | _ | j
      all_goals first | (simp only [cdC, nth, e0, e1, e2, e3, e4, intOf, rel]; done) | (simp at hj; omega)) hf
  exact ⟨l, cap', o, h.1⟩
theorem opa_iv (hval : Value.okWide Try.prog W .any base 31 v) (hd : DataW.Trod enc Try.prog W 0 (fun _ => true) true 31 v d p) : ∃ iv : Iv, OpA W [v] [] (fun _ => [ivA iv]) [] := by
  obtain ⟨cs, rfl, _⟩ := okWide_struct Try.underlying31 hval
  obtain ⟨fuel, hf⟩ := hd
  have hk := flat_trod 3 31 [.int .i64, .int .i64] _ _ _ (by kernel_rfl) hf
  have hk0 := hk
  simp only [Value.cells] at hk hk0
  obtain ⟨u0, r0, e0, ⟨z0, rfl, _⟩, hk1⟩ := hk.cons
  obtain ⟨u1, r1, rfl, ⟨z1, rfl, _⟩, hk2⟩ := hk1.cons
  obtain rfl := hk2.nil
  exact ⟨(z0, z1), opa_flat hk0 fun ι => by rw [e0]; exact ⟨_, _, rfl, rfl, ⟨_, _, rfl, rfl, rfl⟩⟩⟩
end
end Go.Vx.I23
