/- Lemmas of a small executor for the model, and contracts of functions, used for the law that this claim proves. No condition. -/
import Derived.Test.YtblcjjlggfpehaaBC17
set_option linter.unusedSimpArgs false
set_option linter.unusedVariables false
set_option maxRecDepth 100000
namespace Go.Vx.L53
open Go Go.Proofs
abbrev iB (rw : Bool) (l : List Int) : Blk := .arr rw 3 1 l.length (intF l)
/-- A constraint of n variables. -/
abbrev cnOK (n : Nat) (c : Cn) : Prop := (0 ≤ c.a ∧ c.a < n) ∧ (0 ≤ c.b ∧ c.b < n) ∧ (-9007199254740992 ≤ c.w ∧ c.w ≤ 9007199254740992)
def allOK (n : Nat) (l : List Cn) : Prop := ∀ c ∈ l, cnOK n c
instance (n : Nat) (l : List Cn) : Decidable (allOK n l) := inferInstanceAs (Decidable (∀ c ∈ l, _))
/-- The error of a system. -/
def cchk (n : Int) (l : List Cn) : Int := if ¬ (1 ≤ n ∧ n ≤ 160) then 3 else if 4096 < l.length then 6 else if allOK n.toNat l then 0 else 3
theorem cchk_zero {n : Int} {l : List Cn} (h : cchk n l = 0) : ∃ m : Nat, n = m ∧ (1 ≤ m ∧ m ≤ 160) ∧ l.length ≤ 4096 ∧ allOK m l := by
  unfold cchk at h
  split at h
  · cases h
  · split at h
    · cases h
    · split at h
      · exact ⟨n.toNat, by omega, by omega, by omega, by assumption⟩
      · cases h
/-- One constraint of a round. -/
def rl1 (X : List Int) (i : Nat) (c : Cn) (p : List Int × List Int) : List Int × List Int :=
  if X.getD c.a.toNat 0 + c.w < p.1.getD c.b.toNat 0 then (p.1.set c.b.toNat (X.getD c.a.toNat 0 + c.w), p.2.set c.b.toNat (i : Int)) else p
/-- The first constraints of a round. -/
def rlN (X : List Int) (l : List Cn) : Nat → List Int × List Int
  | 0 => (X, List.replicate X.length (-1))
  | x + 1 => rl1 X x (l.getD x cn0) (rlN X l x)
theorem rlN_len (X : List Int) (l : List Cn) : ∀ x, (rlN X l x).1.length = X.length ∧ (rlN X l x).2.length = X.length
  | 0 => by simp [rlN]
  | x + 1 => by
    have := rlN_len X l x
    unfold rlN rl1
    split
    · simpa using this
    · exact this
/-- All values are from -B to 0. -/
def bnd (B : Int) (D : List Int) : Prop := ∀ i, -B ≤ D.getD i 0 ∧ D.getD i 0 ≤ 0
theorem getD_set' {α : Type} (l : List α) (i k : Nat) (x d : α) : (l.set i x).getD k d = if k = i ∧ i < l.length then x else l.getD k d := getD_set l i k x d
theorem rlN_bnd {B : Int} {X : List Int} {l : List Cn} {n : Nat} (hX : bnd B X) (hl : allOK n l) : ∀ x, x ≤ l.length → bnd (B + 9007199254740992) (rlN X l x).1
  | 0, _ => fun i => by have := hX i; show -(_) ≤ X.getD i 0 ∧ X.getD i 0 ≤ 0; omega
  | x + 1, hx => fun i => by
    have ih := rlN_bnd hX hl x (by omega)
    have hc := hl _ (getD_mem l x cn0 (by omega))
    unfold rlN rl1
    split
    · rename_i h
      rw [getD_set']
      have h1 := hX (l.getD x cn0).a.toNat
      have h2 := ih (l.getD x cn0).b.toNat
      split
      · omega
      · exact ih i
    · exact ih i
theorem rlN_by {X : List Int} {l : List Cn} : ∀ x, x ≤ l.length → ∀ i, -1 ≤ (rlN X l x).2.getD i 0 ∧ (rlN X l x).2.getD i 0 ≤ l.length
  | 0, _ => fun i => by
    show -1 ≤ (List.replicate X.length (-1 : Int)).getD i 0 ∧ _
    rw [rlN, List.getD_eq_getElem?_getD, List.getElem?_replicate]
    split <;> simp <;> omega
  | x + 1, hx => fun i => by
    have ih := rlN_by (X := X) (l := l) x (by omega)
    unfold rlN rl1
    split
    · rw [getD_set']
      split
      · omega
      · exact ih i
    · exact ih i
def lst (l : List Cn) (n : Nat) : Nat → List Int
  | 0 => List.replicate n 0
  | r + 1 => (rlN (lst l n r) l l.length).1
theorem lst_len (l : List Cn) (n : Nat) : ∀ r, (lst l n r).length = n
  | 0 => by simp [lst]
  | r + 1 => by rw [lst, (rlN_len _ _ _).1, lst_len l n r]
def byN (l : List Cn) (n r : Nat) : List Int := (rlN (lst l n r) l l.length).2
theorem byN_len (l : List Cn) (n r : Nat) : (byN l n r).length = n := by rw [byN, (rlN_len _ _ _).2, lst_len]
def lss (l : List Cn) (n r : Nat) : List (List Int) := (List.range r).map (byN l n)
theorem lss_len (l : List Cn) (n r : Nat) : (lss l n r).length = r := by simp [lss]
theorem lss_snoc (l : List Cn) (n r : Nat) : lss l n (r + 1) = lss l n r ++ [byN l n r] := by simp [lss, List.range_succ]
theorem lss_get (l : List Cn) (n : Nat) {r k : Nat} (h : k < r) : (lss l n r).getD k [] = byN l n k := by
  unfold lss
  rw [List.getD_eq_getElem?_getD, List.getElem?_map, List.getElem?_range h]; rfl
theorem lst_bnd {l : List Cn} {n : Nat} (hl : allOK n l) : ∀ r : Nat, bnd (9007199254740992 * r) (lst l n r)
  | 0 => fun i => by
    rw [lst, List.getD_eq_getElem?_getD, List.getElem?_replicate]
    split <;> simp
  | r + 1 => fun i => by
    have := rlN_bnd (lst_bnd hl r) hl l.length (Nat.le_refl _) i
    rw [lst]; omega
/-- The first value that is not negative. -/
def endF (D : List Int) : Int := match D.findIdx? (fun v => decide (0 ≤ v)) with
  | some i => i
  | none => -1
theorem endF_some {D : List Int} {x : Nat} (hx : x < D.length) (h : ∀ y, y < x → D.getD y 0 < 0) (h0 : 0 ≤ D.getD x 0) : endF D = x := by
  have : D.findIdx? (fun v => decide (0 ≤ v)) = some x := by
    rw [List.findIdx?_eq_some_iff_getElem]
    refine ⟨hx, ?_, fun j hj => ?_⟩
    · rw [List.getD_eq_getElem?_getD, List.getElem?_eq_getElem hx] at h0
      simpa using h0
    · have := h j hj
      rw [List.getD_eq_getElem?_getD, List.getElem?_eq_getElem (by omega)] at this
      simpa using this
  unfold endF; rw [this]
theorem endF_none {D : List Int} (h : ∀ y, y < D.length → D.getD y 0 < 0) : endF D = -1 := by
  have : D.findIdx? (fun v => decide (0 ≤ v)) = none := by
    rw [List.findIdx?_eq_none_iff]
    intro v hv
    obtain ⟨i, hi, rfl⟩ := List.mem_iff_getElem.1 hv
    have := h i hi
    rw [List.getD_eq_getElem?_getD, List.getElem?_eq_getElem hi] at this
    simp only [Option.getD_some] at this
    simpa using this
  unfold endF; rw [this]
/-- Does a round lessen anything? -/
def chgL (D : List Int) : Bool := D.any fun v => decide (0 ≤ v)
theorem endF_neg (D : List Int) : endF D < 0 ↔ chgL D = false := by
  unfold chgL
  rw [List.any_eq_false]
  constructor
  · intro h v hv h2
    obtain ⟨i, hi, rfl⟩ := List.mem_iff_getElem.1 hv
    unfold endF at h
    split at h
    · omega
    · rename_i h3
      rw [List.findIdx?_eq_none_iff] at h3
      exact absurd (h3 _ hv) (by simpa using h2)
  · intro h
    rw [endF_none fun y hy => ?_]
    · decide
    · have := h _ (getD_mem D y 0 hy)
      simpa using this
theorem endF_rg (D : List Int) : -1 ≤ endF D ∧ endF D < D.length := by
  unfold endF
  split
  · rename_i i h
    have := (List.findIdx?_eq_some_iff_getElem.1 h).1
    omega
  · omega
end Go.Vx.L53
