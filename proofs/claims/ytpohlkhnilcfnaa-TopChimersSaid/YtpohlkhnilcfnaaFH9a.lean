/- Lemmas of a small executor for the model, and contracts of functions, used for the law that this claim proves. No condition. -/
import Derived.Test.YtpohlkhnilcfnaaFH8
set_option linter.unusedSimpArgs false
set_option linter.unusedVariables false
set_option maxRecDepth 100000
namespace Go.Vx.I23
open Go Go.Proofs
theorem maj_empty (l : List Cd) (a b : Int) (h : a > b) : majP l (a, b) = false := by
  rw [majP, decide_eq_false_iff_not]; rintro ⟨_, h1, _⟩; simp only at h1; omega
theorem sel_zero {l : List Cd} (h : ¬ (selP l).2.2 = 0) : (selP l).2.1 = (0, 0) := by
  by_cases h0 : ckC l = 0
  · cases hs : selI l with
    | none => rw [sel_none h0 hs]
    | some iv => rw [sel_some h0 hs] at h; exact absurd rfl h
  · rw [sel_err h0]
theorem sel_got {l : List Cd} (h : (selP l).2.2 = 0) : ckC l = 0 ∧ ∃ iv, selI l = some iv ∧ selP l = (fitL (inIv iv) l, iv, 0) := by
  by_cases h0 : ckC l = 0
  · cases hs : selI l with
    | none => rw [sel_none h0 hs] at h; cases h
    | some iv => exact ⟨h0, iv, rfl, sel_some h0 hs⟩
  · rw [sel_err h0] at h; exact absurd h h0
/-- What Meets asks of a selection. -/
theorem meets_fact {l : List Cd} {iv : Iv} (h0 : ckC l = 0) (h : selI l = some iv) :
    iv.1 ≤ iv.2 ∧ l.length < 2 * cntN iv.1 (spans l) l.length ∧ l.length < 2 * cntN iv.2 (spans l) l.length ∧ (spans l).any (fun p => p.1 == iv.1) = true ∧ (spans l).any (fun p => p.2 == iv.2) = true ∧ majP l (iv.1, iv.1) = true := by
  obtain ⟨a, h1, h2, _, _⟩ := sel_spec h0 h
  have e : ∀ t, cntN t (spans l) l.length = cnt (spans l) t := fun t => by have := cntR_eq (spans l) t; rw [cntR, spans_len] at this; exact this
  obtain ⟨p, hp, e1, c1⟩ := h2.lo_is
  obtain ⟨q, hq, e2, c2⟩ := h2.hi_is
  rw [e, e]
  refine ⟨h2.le (by omega), by omega, by omega, List.any_eq_true.2 ⟨p, hp, by simp [e1]⟩, List.any_eq_true.2 ⟨q, hq, by simp [e2]⟩, ?_⟩
  rw [majP, decide_eq_true_eq, meet_point]
  exact ⟨h0, Int.le_refl _, by omega⟩
end Go.Vx.I23
