/- Lemmas of a small executor for the model, and contracts of functions, used for the law that this claim proves. No condition. -/
import Derived.Test.YtblcjjlggfpehaaBD7
set_option linter.unusedSimpArgs false
set_option linter.unusedVariables false
set_option maxRecDepth 100000
namespace Go.Vx.L53
open Go Go.Proofs
/-- One constraint of the reference's round: the list, the causes, the last one. -/
def rc1 (X : List Int) (i : Nat) (c : Cn) (p : List Int × List Int × Int) : List Int × List Int × Int :=
  if X.getD c.a.toNat 0 + c.w < p.1.getD c.b.toNat 0 then (p.1.set c.b.toNat (X.getD c.a.toNat 0 + c.w), p.2.1.set c.b.toNat (i : Int), c.b) else p
def rcN (X D : List Int) (l : List Cn) : Nat → List Int × List Int × Int
  | 0 => (X, D, -1)
  | x + 1 => rc1 X x (l.getD x cn0) (rcN X D l x)
theorem rcN_fst (X D : List Int) (l : List Cn) : ∀ x, (rcN X D l x).1 = (rlN X l x).1
  | 0 => rfl
  | x + 1 => by
    unfold rcN rlN rc1 rl1
    rw [rcN_fst X D l x]
    split <;> first | rfl | exact rcN_fst X D l x
/-- Causes are constraints, or 0. -/
def csOK (l : List Cn) (D : List Int) : Prop := ∀ v ∈ D, 0 ≤ v ∧ (v < l.length ∨ v = 0)
theorem chgL_set' {D : List Int} {b : Nat} {v : Int} (hb : b < D.length) (hv : 0 ≤ v) : chgL (D.set b v) = true := by
  unfold chgL
  rw [List.any_eq_true]
  exact ⟨v, List.mem_iff_getElem.2 ⟨b, by simpa using hb, by simp⟩, by simpa using hv⟩
theorem rcN_ok {n : Nat} {X D : List Int} {l : List Cn} (hl : allOK n l) (hX : X.length = n) (hD : D.length = n) (hc : csOK l D) : ∀ x, x ≤ l.length →
    (rcN X D l x).2.1.length = n ∧ csOK l (rcN X D l x).2.1 ∧ (-1 ≤ (rcN X D l x).2.2 ∧ (rcN X D l x).2.2 < n) ∧ ((rcN X D l x).2.2 < 0 ↔ chgL (rlN X l x).2 = false)
  | 0, _ => by
    refine ⟨hD, hc, ⟨by simp [rcN], by simp [rcN]; omega⟩, fun _ => ?_, fun _ => by simp [rcN]⟩
    unfold rlN chgL
    rw [List.any_eq_false]
    intro v hv
    rw [List.eq_of_mem_replicate hv]; decide
  | x + 1, hx => by
    obtain ⟨h1, h2, h3, h4⟩ := rcN_ok hl hX hD hc x (by omega)
    have hd := hl _ (getD_mem l x cn0 (by omega))
    have hf := rcN_fst X D l x
    have hrl := (rlN_len X l x).2
    unfold rcN rlN rc1 rl1
    rw [hf]
    split
    · refine ⟨by simpa using h1, fun v hv => ?_, ⟨?_, ?_⟩, fun h => ?_, fun h => ?_⟩
      · rcases List.mem_or_eq_of_mem_set hv with hv | rfl
        · exact h2 v hv
        · omega
      · simp only; omega
      · simp only; omega
      · simp only at h; omega
      · simp only at h
        rw [chgL_set' (by omega) (by omega)] at h; cases h
    · exact ⟨h1, h2, h3, h4⟩
def csR (l : List Cn) (n : Nat) : Nat → List Int
  | 0 => List.replicate n 0
  | r + 1 => (rcN (lst l n r) (csR l n r) l l.length).2.1
def laR (l : List Cn) (n r : Nat) : Int := (rcN (lst l n r) (csR l n r) l l.length).2.2
def lbR (l : List Cn) (n : Nat) : Nat → Int
  | 0 => -1
  | r + 1 => laR l n r
theorem csR_ok {l : List Cn} {n : Nat} (hl : allOK n l) : ∀ r, (csR l n r).length = n ∧ csOK l (csR l n r)
  | 0 => ⟨by simp [csR], fun v hv => by rw [csR] at hv; have := List.eq_of_mem_replicate hv; omega⟩
  | r + 1 => by
    obtain ⟨h1, h2⟩ := csR_ok hl r
    obtain ⟨g1, g2, _⟩ := rcN_ok hl (lst_len l n r) h1 h2 l.length (Nat.le_refl _)
    exact ⟨g1, g2⟩
theorem laR_ok {l : List Cn} {n : Nat} (hl : allOK n l) (r : Nat) : (-1 ≤ laR l n r ∧ laR l n r < n) ∧ (laR l n r < 0 ↔ chgL (byN l n r) = false) := by
  obtain ⟨h1, h2⟩ := csR_ok hl r
  obtain ⟨_, _, g3, g4⟩ := rcN_ok hl (lst_len l n r) h1 h2 l.length (Nat.le_refl _)
  exact ⟨g3, g4⟩
theorem laR_ne {l : List Cn} {n r : Nat} (h : 0 ≤ laR l n r) : 0 < l.length := by
  rcases Nat.eq_zero_or_pos l.length with e | e
  · unfold laR at h
    rw [e] at h
    simp [rcN] at h
  · exact e
/-- The cause's start, again and again. -/
def itC (l : List Cn) (D : List Int) (v : Int) : Nat → Int
  | 0 => v
  | k + 1 => (l.getD (D.getD (itC l D v k).toNat 0).toNat cn0).a
theorem itC_rg {l : List Cn} {n : Nat} {D : List Int} {v : Int} (hl : allOK n l) (hD : D.length = n) (hc : csOK l D) (h0 : 0 < l.length) (hv : 0 ≤ v ∧ v < n) : ∀ k, (0 ≤ itC l D v k ∧ itC l D v k < n) ∧ 0 ≤ D.getD (itC l D v k).toNat 0 ∧ (D.getD (itC l D v k).toNat 0).toNat < l.length
  | 0 => by
    have := hc _ (getD_mem D v.toNat 0 (by omega))
    exact ⟨hv, this.1, by show (D.getD v.toNat 0).toNat < l.length; omega⟩
  | k + 1 => by
    obtain ⟨h1, h2, h3⟩ := itC_rg hl hD hc h0 hv k
    have h4 := (hl _ (getD_mem l _ cn0 h3)).1
    have h5 : 0 ≤ itC l D v (k + 1) ∧ itC l D v (k + 1) < n := h4
    have := hc _ (getD_mem D (itC l D v (k + 1)).toNat 0 (by omega))
    exact ⟨h5, this.1, by omega⟩
/-- How often the way back goes on. -/
def bkX (l : List Cn) (D : List Int) (v : Int) : Nat → Nat → Nat
  | 0, x => x
  | m + 1, x => if itC l D v (x + 1) = v then x else bkX l D v m (x + 1)
theorem bkX_le (l : List Cn) (D : List Int) (v : Int) : ∀ m x, bkX l D v m x ≤ x + m
  | 0, x => by simp [bkX]
  | m + 1, x => by
    have := bkX_le l D v m (x + 1)
    unfold bkX; split <;> omega
def bkL (l : List Cn) (D : List Int) (v : Int) (x : Nat) : List Int := (List.range (x + 1)).map fun k => D.getD (itC l D v k).toNat 0
theorem bkL_len (l : List Cn) (D : List Int) (v : Int) (x : Nat) : (bkL l D v x).length = x + 1 := by simp [bkL]
theorem bkL_succ (l : List Cn) (D : List Int) (v : Int) (x : Nat) : bkL l D v (x + 1) = bkL l D v x ++ [D.getD (itC l D v (x + 1)).toNat 0] := by
  unfold bkL
  rw [List.range_succ, List.map_append]; rfl
def rcV (l : List Cn) (n : Nat) : Int := itC l (csR l n (n + 1)) (laR l n n) n
def rcB (l : List Cn) (n : Nat) : List Int := bkL l (csR l n (n + 1)) (rcV l n) (bkX l (csR l n (n + 1)) (rcV l n) n 0)
def rcyA (n : Int) (l : List Cn) : List Int := if cchk n l = 0 ∧ cyc l n.toNat = true then (rcB l n.toNat).reverse else []
theorem rcB_mem {l : List Cn} {n : Nat} (hl : allOK n l) (hla : 0 ≤ laR l n n) : ∀ i ∈ rcB l n, 0 ≤ i ∧ i.toNat < l.length := by
  intro i hi
  obtain ⟨h1, h2⟩ := csR_ok hl (n + 1)
  obtain ⟨⟨_, g⟩, _⟩ := laR_ok hl n
  have h0 := laR_ne hla
  have hv := (itC_rg hl h1 h2 h0 ⟨hla, g⟩ n).1
  unfold rcB bkL at hi
  obtain ⟨k, _, rfl⟩ := List.mem_map.1 hi
  exact (itC_rg hl h1 h2 h0 hv k).2
end Go.Vx.L53
