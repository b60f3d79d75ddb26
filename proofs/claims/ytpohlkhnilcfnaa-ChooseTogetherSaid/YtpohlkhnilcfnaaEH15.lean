/- Lemmas of a small executor for the model, and contracts of functions, used for the law that this claim proves. No condition. -/
import Derived.Test.YtpohlkhnilcfnaaEH14
import Derived.Test.YtpohlkhnilcfnaaEH11
set_option linter.unusedSimpArgs false
set_option linter.unusedVariables false
set_option maxRecDepth 100000
namespace Go.Vx.I23
open Go Go.Proofs
theorem arC_span (t : Int) (i : Nat) (p : Int × Int) (h : u32p p) : (arC t i p).off - (arC t i p).dist = t - p.1 ∧ (arC t i p).off + (arC t i p).dist = t + arB p ∧ 0 ≤ arB p ∧ arB p ≤ 4294967296 := by
  obtain ⟨⟨q1, q2⟩, q3, q4⟩ := h
  simp only [arC, arB, tdiv2]
  refine ⟨?_, ?_, by omega, by omega⟩ <;> (split <;> split <;> omega)
theorem arN_mem (t : Int) (l : List (Int × Int)) : ∀ (k : Nat) (c : Cd), k ≤ l.length → c ∈ arN t l k → ∃ i p, i < k ∧ p ∈ l ∧ c = arC t i p
  | 0, c, _, h => by simp [arN] at h
  | k + 1, c, hk, h => by
    simp only [arN, List.mem_append, List.mem_singleton] at h
    rcases h with h | h
    · obtain ⟨i, p, h1, h2, h3⟩ := arN_mem t l k c (by omega) h
      exact ⟨i, p, by omega, h2, h3⟩
    · exact ⟨k, _, by omega, getD_mem l k (0, 0) (by omega), h⟩
theorem arN_id (t : Int) (l : List (Int × Int)) : ∀ k, (arN t l k).map Cd.id = (List.range k).map fun (i : Nat) => (i : Int)
  | 0 => rfl
  | k + 1 => by simp only [arN, List.map_append, arN_id t l k, List.range_succ]; rfl
theorem arN_ok {t : Int} {l : List (Int × Int)} (ht : -2147483648 ≤ t ∧ t ≤ 2147483647) (hp : ∀ p ∈ l, u32p p) {k : Nat} (hk : k ≤ l.length) (h12 : k ≤ 12) : ckC (arN t l k) = 0 := by
  rw [ckC_iff]
  refine ⟨by rw [arN_len]; exact h12, fun c hc => ?_, ?_⟩
  · obtain ⟨i, p, h1, h2, rfl⟩ := arN_mem t l k c hk hc
    obtain ⟨a, b, c1, c2⟩ := arC_span t i p (hp p h2)
    obtain ⟨⟨q1, q2⟩, q3, q4⟩ := hp p h2
    have e3 : (arC t i p).id = i := rfl
    have e4 : (arC t i p).jit = 0 := rfl
    have e5 : (arC t i p).str = 1 + i := rfl
    simp only [cdOK, decide_eq_true_eq, e3, e4, e5]
    omega
  · rw [arN_id]
    refine List.Pairwise.map _ (fun a b h => ?_) List.nodup_range
    exact fun e => h (by omega)
theorem arN_all {t : Int} {l : List (Int × Int)} (hp : ∀ p ∈ l, u32p p) {k : Nat} (hk : k ≤ l.length) : ∀ c ∈ arN t l k, c.off - c.dist ≤ t ∧ t ≤ c.off + c.dist := fun c hc => by
  obtain ⟨i, p, h1, h2, rfl⟩ := arN_mem t l k c hk hc
  obtain ⟨a, b, c1, c2⟩ := arC_span t i p (hp p h2)
  obtain ⟨⟨q1, q2⟩, q3, q4⟩ := hp p h2
  omega
theorem fit_mem (p : Cd → Bool) (l : List Cd) (k : Nat) (hk : k < l.length) : decide ((k : Int) ∈ fitL p l) = p (l.getD k cd0) := by
  rw [Bool.eq_iff_iff, decide_eq_true_eq]
  simp only [fitL, fitN_range, List.mem_map, List.mem_filter, List.mem_range]
  constructor
  · rintro ⟨i, ⟨_, h2⟩, e⟩
    have : i = k := by omega
    subst this; exact h2
  · intro h; exact ⟨k, ⟨hk, h⟩, rfl⟩
theorem fit_sorted (p : Cd → Bool) (l : List Cd) : sortedB (fitL p l) = true := by
  rw [sortedB_iff]
  intro i hi
  have hs : (fitL p l).Pairwise (· < ·) := by
    rw [fitL, fitN_range]
    refine List.Pairwise.map (R := (· < ·)) _ (fun a b h => ?_) (List.Pairwise.filter _ List.pairwise_lt_range)
    omega
  rw [List.getD_eq_getElem?_getD, List.getD_eq_getElem?_getD, List.getElem?_eq_getElem (by omega), List.getElem?_eq_getElem hi]
  simp only [Option.getD_some]
  exact Int.le_of_lt (List.pairwise_iff_getElem.1 hs i (i + 1) (by omega) hi (by omega))
theorem truth_fact {C : List Cd} {iv : Iv} {t : Int} (h0 : ckC C = 0) (hall : ∀ c ∈ C, c.off - c.dist ≤ t ∧ t ≤ c.off + c.dist) (hs : selI C = some iv) :
    iv.1 ≤ t ∧ t ≤ iv.2 ∧ C.length < 2 * (fitL (inIv iv) C).length ∧ (fitL (inIv iv) C).length + (fitL (fun c => !inIv iv c) C).length = C.length ∧ majP C iv = true := by
  obtain ⟨a, h1, h2, h3, h4⟩ := sel_spec h0 hs
  have hc : cnt (spans C) t = C.length := by
    rw [cnt_spans, List.countP_eq_length]
    intro c hc; simpa using hall c hc
  have hb := fit_both (inIv iv) C
  obtain ⟨g1, g2⟩ := h2.has (t := t) (by omega) (by omega)
  refine ⟨g1, g2, by omega, hb, ?_⟩
  rw [majP, decide_eq_true_eq]
  refine ⟨h0, by omega, ?_⟩
  rw [fitL_count]
  have : C.countP (meetB iv) = C.length := by
    rw [List.countP_eq_length]
    intro c hc
    have := hall c hc
    simp only [meetB, decide_eq_true_eq]; omega
  omega
end Go.Vx.I23
