/- Lemmas of a small executor for the model, and contracts of functions, used for the law that this claim proves. No condition. -/
import Derived.Test.YtblcjjlggfpehaaBC20
set_option linter.unusedSimpArgs false
set_option linter.unusedVariables false
set_option maxRecDepth 100000
namespace Go.Vx.L53
open Go Go.Proofs
/-- No bound. -/
abbrev NN : Int := 4611686018427387904
def mg (M : List (List Int)) (i j : Nat) : Int := (M.getD i []).getD j 0
def ms (M : List (List Int)) (i j : Nat) (v : Int) : List (List Int) := M.set i ((M.getD i []).set j v)
/-- A square of numbers, none above NN. -/
structure Sq (n : Nat) (M : List (List Int)) : Prop where
  len : M.length = n
  row : ∀ i, i < n → (M.getD i []).length = n
  le : ∀ i j, i < n → j < n → mg M i j ≤ NN
theorem mg_ms {M : List (List Int)} {i j : Nat} {v : Int} (hi : i < M.length) (hj : j < (M.getD i []).length) (a b : Nat) : mg (ms M i j v) a b = if a = i ∧ b = j then v else mg M a b := by
  unfold mg ms
  rw [getD_set]
  by_cases ha : a = i
  · rw [if_pos ⟨ha, hi⟩, getD_set]
    subst ha
    by_cases hb : b = j
    · rw [if_pos ⟨hb, hj⟩, if_pos ⟨rfl, hb⟩]
    · rw [if_neg (fun h => hb h.1), if_neg (fun h => hb h.2)]
  · rw [if_neg (fun h => ha h.1), if_neg (fun h => ha h.1)]
theorem Sq.set {n : Nat} {M : List (List Int)} (h : Sq n M) {i j : Nat} {v : Int} (hi : i < n) (hj : j < n) (hv : v ≤ NN) : Sq n (ms M i j v) := by
  refine ⟨by rw [ms, List.length_set, h.len], fun a ha => ?_, fun a b ha hb => ?_⟩
  · unfold ms
    rw [getD_set]
    split
    · rw [List.length_set]; exact h.row i hi
    · exact h.row a ha
  · rw [mg_ms (by rw [h.len]; exact hi) (by rw [h.row i hi]; exact hj)]
    split
    · exact hv
    · exact h.le a b ha hb
def idR (n a : Nat) : List Int := (List.replicate n NN).set a 0
def iniR (n i : Nat) : List (List Int) := (List.range i).map (idR n) ++ List.replicate (n - i) []
theorem iniR_len (n i : Nat) (h : i ≤ n) : (iniR n i).length = n := by simp [iniR]; omega
theorem iniR_succ (n i : Nat) (h : i < n) (r : List Int) : (iniR n i).set i r = (List.range i).map (idR n) ++ r :: List.replicate (n - (i + 1)) [] := by
  unfold iniR
  rw [List.set_append_right _ _ (by simp), List.length_map, List.length_range, Nat.sub_self, show n - i = (n - (i + 1)) + 1 by omega, List.replicate_succ, List.set_cons_zero]
theorem iniR_next (n i : Nat) (h : i < n) : (iniR n i).set i (idR n i) = iniR n (i + 1) := by
  rw [iniR_succ n i h]
  unfold iniR
  rw [List.range_succ, List.map_append, List.append_assoc]; rfl
theorem iniR_get (n i : Nat) (h : i < n) (r : List Int) : ((iniR n i).set i r).getD i [] = r := by
  rw [getD_set, if_pos ⟨rfl, by rw [iniR_len n i (by omega)]; exact h⟩]
theorem iniR_sq (n : Nat) : Sq n (iniR n n) := by
  have hg : ∀ i, i < n → (iniR n n).getD i [] = idR n i := fun i hi => by
    unfold iniR
    rw [Nat.sub_self, List.replicate_zero, List.append_nil, List.getD_eq_getElem?_getD, List.getElem?_map, List.getElem?_range hi]; rfl
  refine ⟨iniR_len n n (Nat.le_refl _), fun i hi => ?_, fun i j hi hj => ?_⟩
  · rw [hg i hi, idR, List.length_set, List.length_replicate]
  · unfold mg idR at *
    rw [hg i hi, getD_set]
    split
    · decide
    · rw [List.getD_eq_getElem?_getD, List.getElem?_replicate, if_pos hj]; exact Int.le_refl _
/-- A constraint brought in. -/
def mC (M : List (List Int)) (c : Cn) : List (List Int) := ms M c.a.toNat c.b.toNat (lsr (mg M c.a.toNat c.b.toNat) c.w)
def mL (n : Nat) (l : List Cn) : Nat → List (List Int)
  | 0 => iniR n n
  | x + 1 => mC (mL n l x) (l.getD x cn0)
theorem lsr_le (a b : Int) : lsr a b ≤ a := by unfold lsr; split <;> omega
theorem mL_sq {n : Nat} {l : List Cn} (hl : allOK n l) : ∀ x, x ≤ l.length → Sq n (mL n l x)
  | 0, _ => iniR_sq n
  | x + 1, h => by
    have ih := mL_sq hl x (by omega)
    have hc := hl _ (getD_mem l x cn0 (by omega))
    exact ih.set (by omega) (by omega) (Int.le_trans (lsr_le _ _) (ih.le _ _ (by omega) (by omega)))
/-- One step of the closure; numbers wrap. -/
def fS (k i : Nat) (M : List (List Int)) (j : Nat) : List (List Int) :=
  if mg M i k ≠ NN ∧ mg M k j ≠ NN ∧ IntKind.i64.wrap (mg M i k + mg M k j) < mg M i j then ms M i j (IntKind.i64.wrap (mg M i k + mg M k j)) else M
def fJ (k i : Nat) (M : List (List Int)) : Nat → List (List Int)
  | 0 => M
  | j + 1 => fS k i (fJ k i M j) j
def fI (n k : Nat) (M : List (List Int)) : Nat → List (List Int)
  | 0 => M
  | i + 1 => fJ k i (fI n k M i) n
def fK (n : Nat) (M : List (List Int)) : Nat → List (List Int)
  | 0 => M
  | k + 1 => fI n k (fK n M k) n
/-- The bounds of a system. -/
def fw (n : Nat) (l : List Cn) : List (List Int) := fK n (mL n l l.length) n
theorem fS_sq {n k i j : Nat} {M : List (List Int)} (h : Sq n M) (hi : i < n) (hj : j < n) : Sq n (fS k i M j) := by
  unfold fS
  split
  · rename_i h1
    exact h.set hi hj (by have := h.le i j hi hj; omega)
  · exact h
theorem fJ_sq {n k i : Nat} {M : List (List Int)} (h : Sq n M) (hi : i < n) : ∀ j, j ≤ n → Sq n (fJ k i M j)
  | 0, _ => h
  | j + 1, hj => fS_sq (fJ_sq h hi j (by omega)) hi (by omega)
theorem fI_sq {n k : Nat} {M : List (List Int)} (h : Sq n M) : ∀ i, i ≤ n → Sq n (fI n k M i)
  | 0, _ => h
  | i + 1, hi => fJ_sq (fI_sq h i (by omega)) (by omega) n (Nat.le_refl _)
theorem fK_sq {n : Nat} {M : List (List Int)} (h : Sq n M) : ∀ k, k ≤ n → Sq n (fK n M k)
  | 0, _ => h
  | k + 1, hk => fI_sq (fK_sq h k (by omega)) n (Nat.le_refl _)
/-- What has a bound keeps it; what has none is not turned by a row without a bound. -/
theorem fJ_nn {n k i : Nat} {M : List (List Int)} (h : Sq n M) (hi : i < n) (hk : k < n) : ∀ j, j ≤ n → (mg (fJ k i M j) i k = NN ↔ mg M i k = NN) ∧ (mg M i k = NN → fJ k i M j = M)
  | 0, _ => ⟨Iff.rfl, fun _ => rfl⟩
  | j + 1, hj => by
    obtain ⟨h1, h2⟩ := fJ_nn h hi hk j (by omega)
    have hq := fJ_sq (k := k) h hi j (by omega)
    by_cases hM : mg M i k = NN
    · have e : fJ k i M (j + 1) = M := by
        show fS k i (fJ k i M j) j = M
        rw [h2 hM]
        unfold fS
        rw [if_neg (fun h => h.1 hM)]
      exact ⟨by rw [e], fun _ => e⟩
    · refine ⟨⟨fun h3 => ?_, fun h3 => absurd h3 hM⟩, fun h3 => absurd h3 hM⟩
      have h3 : mg (fS k i (fJ k i M j) j) i k = NN := h3
      have hl := hq.le i k hi hk
      have hl2 := hq.le i j hi (by omega)
      have hne : mg (fJ k i M j) i k ≠ NN := fun h4 => hM (h1.1 h4)
      unfold fS at h3
      split at h3
      · rename_i hc
        rw [mg_ms (by rw [hq.len]; exact hi) (by rw [hq.row i hi]; omega)] at h3
        split at h3
        · omega
        · exact absurd h3 hne
      · exact absurd h3 hne
end Go.Vx.L53
