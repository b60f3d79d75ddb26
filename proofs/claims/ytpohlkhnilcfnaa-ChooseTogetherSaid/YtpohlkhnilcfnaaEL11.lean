/- Lemmas of a small executor for the model, and contracts of functions, used for the law that this claim proves. No condition. -/
import Derived.Test.YtpohlkhnilcfnaaEL10
import Derived.Test.YtpohlkhnilcfnaaEH16
set_option linter.unusedSimpArgs false
set_option linter.unusedVariables false
set_option maxRecDepth 100000
namespace Go.Vx.I23
open Go Go.Proofs Go.Proofs.Ytpohlkhnilcfnaa
open Go.ChangeShapes Go.WideShapes Go.RowKit Go.Deep
section
variable {H : Type} {enc : TypeId × Value → H} {W : World} {base : Nat} {v : Value} {d : DataW H} {p : List MemPlace}
theorem wf_u32 {z : Int} (h : (Lit.int .u32 z).wf = true) : 0 ≤ z ∧ z ≤ 4294967295 := by
  have e1 : IntKind.u32.min = 0 := by decide
  have e2 : IntKind.u32.max = 4294967295 := by decide
  simp only [Lit.wf, e1, e2, Bool.and_eq_true, decide_eq_true_eq] at h
  exact h
theorem wf_i32 {z : Int} (h : (Lit.int .i32 z).wf = true) : -2147483648 ≤ z ∧ z ≤ 2147483647 := by
  have e1 : IntKind.i32.min = -2147483648 := by decide
  have e2 : IntKind.i32.max = 2147483647 := by decide
  simp only [Lit.wf, e1, e2, Bool.and_eq_true, decide_eq_true_eq] at h
  exact h
theorem opa_near (hval : Value.okWide Try.prog W .any base 59 v) (hd : DataW.Trod enc Try.prog W 0 (fun _ => true) true 59 v d p) :
    ∃ (l : List (Int × Int)) (cap : Option Nat) (_ : l.length ≤ maxLen ∧ ∀ p ∈ l, u32p p) (o : Option Loc), OpA W [v] [o] (fun b => [.sl b 2 0 l.length cap]) [.arr false 83 2 l.length (rowF nrC (0, 0) l)] := by
  obtain ⟨a, len, cap, rfl⟩ := okWide_slice Try.underlying59 hval
  obtain ⟨fuel, hf⟩ := hd
  obtain ⟨l, cap', o, hl, hm, h⟩ := opn_list (cells := nrC) (d := (0, 0)) (ks := [.int .u32, .int .u32]) (n0 := 3) Try.underlying59 (by kernel_rfl) (by kernel_rfl) (by decide)
    (fun F => (intOf (F 0), intOf (F 1))) (fun F hF ι j hj => by
      obtain ⟨z0, e0, _⟩ := hF 0 _ rfl
      obtain ⟨z1, e1, _⟩ := hF 1 _ rfl
      rcases j with _ | _ | j
      all_goals first | (simp only [nrC, nth, e0, e1, intOf, rel]; done) | (simp at hj; omega)) hf
  refine ⟨l, cap', ⟨hl, fun q hq => ?_⟩, o, h.1⟩
  obtain ⟨F, hF, rfl⟩ := hm q hq
  obtain ⟨z0, e0, w0⟩ := hF 0 _ rfl
  obtain ⟨z1, e1, w1⟩ := hF 1 _ rfl
  refine ⟨?_, ?_⟩
  · simp only [e0, intOf]; exact wf_u32 w0
  · simp only [e1, intOf]; exact wf_u32 w1
theorem law15w (t : Int) (wt : (Lit.int .i32 t).wf = true) (l : List (Int × Int)) (cap : Option Nat) (h : l.length ≤ maxLen ∧ ∀ p ∈ l, u32p p) :
    Runs Try.prog 15 [.val (.int .i32 t), .sl 0 2 0 l.length cap] [.arr false 83 2 l.length (rowF nrC (0, 0) l)] (Det (.sb true) [.arr false 83 2 l.length (rowF nrC (0, 0) l)]) := law15 t l cap (wf_i32 wt) h.1 h.2
end
end Go.Vx.I23
