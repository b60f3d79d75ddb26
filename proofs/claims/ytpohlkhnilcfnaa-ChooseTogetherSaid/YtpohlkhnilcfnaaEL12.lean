/- Lemmas of a small executor for the model, and contracts of functions, used for the law that this claim proves. No condition. -/
import Derived.Test.YtpohlkhnilcfnaaEL11
import Derived.Test.YtpohlkhnilcfnaaEH19
set_option linter.unusedSimpArgs false
set_option linter.unusedVariables false
set_option maxRecDepth 100000
namespace Go.Vx.I23
open Go Go.Proofs Go.Proofs.Ytpohlkhnilcfnaa
open Go.ChangeShapes Go.WideShapes Go.RowKit Go.Deep
section
variable {H : Type} {enc : TypeId × Value → H} {W : World} {base : Nat} {v : Value} {d : DataW H} {p : List MemPlace}
theorem wf_u16 {z : Int} (h : (Lit.int .u16 z).wf = true) : 0 ≤ z ∧ z ≤ 65535 := by
  have e1 : IntKind.u16.min = 0 := by decide
  have e2 : IntKind.u16.max = 65535 := by decide
  simp only [Lit.wf, e1, e2, Bool.and_eq_true, decide_eq_true_eq] at h
  exact h
theorem opa_i32s (hval : Value.okWide Try.prog W .any base 64 v) (hd : DataW.Trod enc Try.prog W 0 (fun _ => true) true 64 v d p) :
    ∃ (l : List Int) (cap : Option Nat) (_ : l.length ≤ maxLen ∧ ∀ o ∈ l, -2147483648 ≤ o ∧ o ≤ 2147483647) (o : Option Loc), OpA W [v] [o] (fun b => [.sl b 1 0 l.length cap]) [.arr false 21 1 l.length (rowF i32C 0 l)] := by
  obtain ⟨a, len, cap, rfl⟩ := okWide_slice Try.underlying64 hval
  obtain ⟨fuel, hf⟩ := hd
  obtain ⟨l, cap', o, hl, hm, h⟩ := opn_list (cells := i32C) (d := 0) (ks := [.int .i32]) (n0 := 3) Try.underlying64 (by kernel_rfl) (by kernel_rfl) (by decide)
    (fun F => intOf (F 0)) (fun F hF ι j hj => by
      obtain ⟨z0, e0, _⟩ := hF 0 _ rfl
      rcases j with _ | j
      all_goals first | (simp only [i32C, nth, e0, intOf, rel]; done) | (simp at hj; omega)) hf
  refine ⟨l, cap', ⟨hl, fun q hq => ?_⟩, o, h.1⟩
  obtain ⟨F, hF, rfl⟩ := hm q hq
  obtain ⟨z0, e0, w0⟩ := hF 0 _ rfl
  simp only [e0, intOf]; exact wf_i32 w0
theorem opa_u16s (hval : Value.okWide Try.prog W .any base 65 v) (hd : DataW.Trod enc Try.prog W 0 (fun _ => true) true 65 v d p) :
    ∃ (l : List Int) (cap : Option Nat) (_ : l.length ≤ maxLen ∧ ∀ o ∈ l, 0 ≤ o ∧ o ≤ 65535) (o : Option Loc), OpA W [v] [o] (fun b => [.sl b 1 0 l.length cap]) [.arr false 67 1 l.length (rowF u16C 0 l)] := by
  obtain ⟨a, len, cap, rfl⟩ := okWide_slice Try.underlying65 hval
  obtain ⟨fuel, hf⟩ := hd
  obtain ⟨l, cap', o, hl, hm, h⟩ := opn_list (cells := u16C) (d := 0) (ks := [.int .u16]) (n0 := 3) Try.underlying65 (by kernel_rfl) (by kernel_rfl) (by decide)
    (fun F => intOf (F 0)) (fun F hF ι j hj => by
      obtain ⟨z0, e0, _⟩ := hF 0 _ rfl
      rcases j with _ | j
      all_goals first | (simp only [u16C, nth, e0, intOf, rel]; done) | (simp at hj; omega)) hf
  refine ⟨l, cap', ⟨hl, fun q hq => ?_⟩, o, h.1⟩
  obtain ⟨F, hF, rfl⟩ := hm q hq
  obtain ⟨z0, e0, w0⟩ := hF 0 _ rfl
  simp only [e0, intOf]; exact wf_u16 w0
theorem law16w (l : List Int) (cap : Option Nat) (h : l.length ≤ maxLen ∧ ∀ o ∈ l, -2147483648 ≤ o ∧ o ≤ 2147483647) (m : List Int) (cap' : Option Nat) (h' : m.length ≤ maxLen ∧ ∀ o ∈ m, 0 ≤ o ∧ o ≤ 65535) :
    Runs Try.prog 16 [.sl 0 1 0 l.length cap, .sl 1 1 0 m.length cap'] [.arr false 21 1 l.length (rowF i32C 0 l), .arr false 67 1 m.length (rowF u16C 0 m)] (Det (.sb true) [.arr false 21 1 l.length (rowF i32C 0 l), .arr false 67 1 m.length (rowF u16C 0 m)]) := by
  have e : l.take 12 ++ l.drop 12 = l := List.take_append_drop 12 l
  have := law16 (l.take 12) (l.drop 12) cap m cap' (by rw [e, List.length_take]; omega) (fun o ho => h.2 o (List.mem_of_mem_take ho)) h'.2 (by rw [e]; exact h.1) h'.1
  rw [e] at this
  exact this
end
end Go.Vx.I23
