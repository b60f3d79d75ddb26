/- Lemmas of a small executor for the model, and contracts of functions, used for the law that this claim proves. No condition. -/
import Derived.Test.YtblcjjlggfpehaaBD8
set_option linter.unusedSimpArgs false
set_option linter.unusedVariables false
set_option maxRecDepth 100000
namespace Go.Vx.L53
open Go Go.Proofs
/-- The marks of what is blamed. -/
def bmN (B : List Int) (m : Nat) : Nat → List Bool
  | 0 => (List.replicate m false).set 0 true
  | x + 1 => (bmN B m x).set (B.getD x 0 + 1).toNat true
theorem bmN_len (B : List Int) (m : Nat) : ∀ x, (bmN B m x).length = m
  | 0 => by simp [bmN]
  | x + 1 => by rw [bmN, List.length_set, bmN_len B m x]
theorem bmN_get {B : List Int} {m : Nat} (hB : ∀ b ∈ B, 0 ≤ b ∧ b + 1 < m) {j : Nat} (hj : j < m) : ∀ x, x ≤ B.length → ((bmN B m x).getD j false = true ↔ j = 0 ∨ ∃ z, z < x ∧ B.getD z 0 + 1 = j)
  | 0, _ => by
    rw [bmN, getD_set]
    by_cases e : j = 0
    · rw [if_pos ⟨e, by simpa using by omega⟩]; simp [e]
    · rw [if_neg (fun h => e h.1)]
      simp [e, List.getD_eq_getElem?_getD, List.getElem?_replicate, hj]
  | x + 1, hx => by
    have ih := bmN_get hB hj x (by omega)
    have hb := hB _ (getD_mem B x 0 (by omega))
    rw [bmN, getD_set, bmN_len]
    by_cases e : j = (B.getD x 0 + 1).toNat
    · rw [if_pos ⟨e, by omega⟩]
      simp only [true_iff]
      exact .inr ⟨x, by omega, by omega⟩
    · rw [if_neg (fun h => e h.1), ih]
      constructor
      · rintro (h | ⟨z, h1, h2⟩)
        · exact .inl h
        · exact .inr ⟨z, by omega, h2⟩
      · rintro (h | ⟨z, h1, h2⟩)
        · exact .inl h
        · by_cases ez : z = x
          · subst ez; exact absurd (by omega) e
          · exact .inr ⟨z, by omega, h2⟩
theorem bmN_blV {B : List Int} {m : Nat} (hB : ∀ b ∈ B, 0 ≤ b ∧ b + 1 < m) {v : Int} (h0 : 0 ≤ v ∧ v < m) : (bmN B m B.length).getD v.toNat false = blV B v := by
  rw [Bool.eq_iff_iff, bmN_get hB (by omega) B.length (Nat.le_refl _)]
  unfold blV
  rw [Bool.or_eq_true, decide_eq_true_eq, decide_eq_true_eq]
  constructor
  · rintro (h | ⟨z, h1, h2⟩)
    · exact .inl (by omega)
    · exact .inr (by rw [show v - 1 = B.getD z 0 by omega]; exact getD_mem B z 0 h1)
  · rintro (h | h)
    · exact .inl (by omega)
    · obtain ⟨z, h1, h2⟩ := mem_get (d := 0) h
      exact .inr ⟨z, h1, by omega⟩
/-- The constraints between what is blamed, of the first ones. -/
def prtN (B : List Int) (l : List Cn) (x : Nat) : List Cn := prt B (l.take x)
theorem prtN_succ {B : List Int} {l : List Cn} {x : Nat} (h : x < l.length) : prtN B l (x + 1) = bif prtP B (l.getD x cn0) then prtN B l x ++ [l.getD x cn0] else prtN B l x := by
  unfold prtN prt
  rw [take_snoc l x cn0 h, List.filter_append]
  rw [List.filter_cons, List.filter_nil]
  cases hp : prtP B (l.getD x cn0)
  · rw [if_neg Bool.false_ne_true, List.append_nil]; rfl
  · rw [if_pos rfl]; rfl
theorem prtN_all (B : List Int) (l : List Cn) : prtN B l l.length = prt B l := by unfold prtN; rw [List.take_length]
theorem prtN_len (B : List Int) (l : List Cn) (x : Nat) : (prtN B l x).length ≤ x := by
  unfold prtN prt
  exact Nat.le_trans (List.length_filter_le ..) (by rw [List.length_take]; omega)
theorem inc_lt {B : List Int} (h : Inc B) {k : Nat} (h0 : 0 < k) (hk : k < B.length) : B.getD (k - 1) 0 < B.getD k 0 := by
  have := List.pairwise_iff_getElem.1 h (k - 1) k (by omega) hk (by omega)
  rw [List.getD_eq_getElem?_getD, List.getD_eq_getElem?_getD, List.getElem?_eq_getElem hk, List.getElem?_eq_getElem (by omega)]
  exact this
end Go.Vx.L53
