/- Lemmas of a small executor for the model, and contracts of functions, used for the law that this claim proves. No condition. -/
import Derived.Test.YtpohlkhnilcfnaaFH7
set_option linter.unusedSimpArgs false
set_option linter.unusedVariables false
set_option maxRecDepth 100000
namespace Go.Vx.I23
open Go Go.Proofs
theorem spans_vd {l : List Cd} (h : ckC l = 0) : validL (spans l) = spans l := spans_valid (ck0 h).2 (by have := (ck0 h).1; omega)
theorem hullV_spec {l : List Cd} (h : ckC l = 0) (g : Int) (hg : 0 < g) : ((∃ p ∈ spans l, g ≤ (cnt (spans l) p.1 : Int)) ∧ (hullV (spans l) g).2 = true ∧ IsHull (spans l) g (hullV (spans l) g).1.1 (hullV (spans l) g).1.2) ∨
    ((¬ ∃ p ∈ spans l, g ≤ (cnt (spans l) p.1 : Int)) ∧ hullV (spans l) g = ((0, 0), false)) := by
  have hs := hullI_spec (spans l) g
  rw [hullV_eq _ _ hg, spans_vd h] at hs
  rcases hs with ⟨_, h1, h2, h3⟩ | ⟨h1, h2⟩
  · exact .inl ⟨h1, h2, h3⟩
  · exact .inr ⟨fun h => h1 ⟨by omega, h⟩, h2⟩
theorem IsHull.le {v : List Iv} {g lo hi : Int} (hg : 0 < g) (h : IsHull v g lo hi) : lo ≤ hi := by
  obtain ⟨p, hp, rfl, hc⟩ := h.lo_is
  obtain ⟨q, hq, q1, q2⟩ := cnt_right (v := v) (x := p.1) (by omega)
  have := h.hi_max q hq (by omega)
  omega
theorem IsHull.has {v : List Iv} {g lo hi t : Int} (hg : 0 < g) (h : IsHull v g lo hi) (ht : g ≤ (cnt v t : Int)) : lo ≤ t ∧ t ≤ hi := by
  obtain ⟨p, hp, p1, p2⟩ := cnt_left (v := v) (x := t) (by omega)
  obtain ⟨q, hq, q1, q2⟩ := cnt_right (v := v) (x := t) (by omega)
  have a := h.lo_min p hp (by omega)
  have b := h.hi_max q hq (by omega)
  omega
theorem selN_some {l : List Cd} {iv : Iv} : ∀ (f a : Nat), selN l f a = some iv → ∃ b, a ≤ b ∧ 2 * b < l.length ∧ okA l b = true ∧ iv = (hullV (spans l) (l.length - b)).1
  | 0, _, h => by cases h
  | f + 1, a, h => by
    simp only [selN] at h
    split at h
    · rename_i ha
      split at h
      · rename_i hk
        simp only [Option.some.injEq] at h
        exact ⟨a, Nat.le_refl _, ha, hk, h.symm⟩
      · obtain ⟨b, h1, h2⟩ := selN_some f (a + 1) h
        exact ⟨b, by omega, h2⟩
    · cases h
/-- What is selected. -/
theorem sel_spec {l : List Cd} {iv : Iv} (h0 : ckC l = 0) (h : selI l = some iv) :
    ∃ a : Nat, 2 * a < l.length ∧ IsHull (spans l) (l.length - a) iv.1 iv.2 ∧ (fitL (fun c => !inIv iv c) l).length ≤ a ∧ hullV (spans l) (l.length - a) = (iv, true) := by
  obtain ⟨a, _, h1, h2, h3⟩ := selN_some _ _ h
  simp only [okA, Bool.and_eq_true, decide_eq_true_eq] at h2
  rw [← h3] at h2
  refine ⟨a, h1, ?_, h2.2, Prod.ext h3.symm h2.1⟩
  rcases hullV_spec h0 ((l.length : Int) - a) (by omega) with ⟨_, _, q⟩ | ⟨_, q⟩
  · rw [← h3] at q; exact q
  · rw [q] at h2; cases h2.1
theorem fitN_filter (p : Cd → Bool) (l : List Cd) : ∀ k, k ≤ l.length → (fitN p l k).length = (l.take k).countP p
  | 0, _ => by simp [fitN]
  | k + 1, h => by
    rw [take_succ' l k cd0 (by omega), List.countP_append]
    simp only [fitN, List.length_append, fitN_filter p l k (by omega)]
    generalize l.getD k cd0 = x
    rcases Bool.eq_false_or_eq_true (p x) with h | h <;> simp [h]
theorem fitL_count (p : Cd → Bool) (l : List Cd) : (fitL p l).length = l.countP p := by
  rw [fitL, fitN_filter p l _ (Nat.le_refl _), List.take_length]
theorem cnt_spans (l : List Cd) (t : Int) : cnt (spans l) t = l.countP (fun c => decide (c.off - c.dist ≤ t ∧ t ≤ c.off + c.dist)) := by
  rw [cnt, spans, List.countP_map]; rfl
theorem meet_point (l : List Cd) (t : Int) : (fitL (meetB (t, t)) l).length = cnt (spans l) t := by
  rw [fitL_count, cnt_spans]
  congr 1
theorem anyN_take {α : Type} (p : α → Bool) (l : List α) (k : Nat) (d : α) (h : k < l.length) : (l.take (k + 1)).any p = ((l.take k).any p || p (l.getD k d)) := by
  rw [take_succ' l k d h, List.any_append]; simp
end Go.Vx.I23
