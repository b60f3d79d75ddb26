/- Lemmas of a small executor for the model, and contracts of functions, used for the law that this claim proves. No condition. -/
import Derived.Test.YtblcjjlggfpehaaBY2
import Derived.Test.YtblcjjlggfpehaaBD2
set_option linter.unusedSimpArgs false
set_option linter.unusedVariables false
set_option maxRecDepth 100000
namespace Go.Vx.L53
open Go Go.Proofs
def mxJ (a b : Int) : Int := if b > a then b else a
theorem mxJ_is (a b : Int) : (b > a ∧ mxJ a b = b) ∨ (b ≤ a ∧ mxJ a b = a) := by unfold mxJ; split <;> omega
/-- How far the values without a bound are lifted. -/
def adN (R Y : List Int) (l : List Cn) : Nat → Int
  | 0 => 0
  | x + 1 => if R.getD (l.getD x cn0).a.toNat 0 = NN ∧ R.getD (l.getD x cn0).b.toNat 0 ≠ NN then mxJ (adN R Y l x) (R.getD (l.getD x cn0).b.toNat 0 - (l.getD x cn0).w - Y.getD (l.getD x cn0).a.toNat 0) else adN R Y l x
def tgW (R Y : List Int) (k : Int) (j : Nat) : Int := if R.getD j 0 = NN then Y.getD j 0 + k else R.getD j 0
def tgP (R Y : List Int) (k : Int) (x : Nat) : List Int := (List.range x).map (tgW R Y k) ++ R.drop x
theorem tgP_len (R Y : List Int) (k : Int) (x : Nat) (h : x ≤ R.length) : (tgP R Y k x).length = R.length := by
  unfold tgP; rw [List.length_append, List.length_map, List.length_range, List.length_drop]; omega
theorem tgP_get (R Y : List Int) (k : Int) {x : Nat} (h : x < R.length) : (tgP R Y k x).getD x 0 = R.getD x 0 := by
  unfold tgP
  rw [List.getD_eq_getElem?_getD, List.getElem?_append_right (by rw [List.length_map, List.length_range]; omega), List.length_map, List.length_range, Nat.sub_self, List.getElem?_drop, ← List.getD_eq_getElem?_getD]; rfl
theorem tgP_set (R Y : List Int) (k : Int) {x : Nat} (h : x < R.length) : tgP R Y k (x + 1) = (tgP R Y k x).set x (tgW R Y k x) := by
  unfold tgP
  rw [List.set_append_right _ _ (by rw [List.length_map, List.length_range]; omega), List.length_map, List.length_range, Nat.sub_self, drop_cons R x 0 h, List.set_cons_zero, List.range_succ, List.map_append, List.append_assoc]; rfl
theorem tgP_same (R Y : List Int) (k : Int) {x : Nat} (h : x < R.length) (hn : R.getD x 0 ≠ NN) : tgP R Y k (x + 1) = tgP R Y k x := by
  rw [tgP_set R Y k h]
  have : tgW R Y k x = (tgP R Y k x).getD x 0 := by rw [tgP_get R Y k h]; unfold tgW; rw [if_neg hn]
  rw [this, set_self]
/-- The row of bounds of a variable. -/
def rowA (l : List Cn) (n a : Nat) : List Int := (fw n l).getD a []
/-- The solution in which a difference has its bound. -/
def tgX (l : List Cn) (n a : Nat) : List Int := tgP (rowA l n a) (lst l n (n - 1)) (adN (rowA l n a) (lst l n (n - 1)) l l.length) n
def tgE (n : Int) (l : List Cn) (a b : Int) : Int := if cchk n l ≠ 0 then cchk n l else if ¬ ((0 ≤ a ∧ a < n) ∧ (0 ≤ b ∧ b < n)) then 3 else if cyc l n.toNat then 20 else if (rowA l n.toNat a.toNat).getD b.toNat 0 = NN then 11 else 0
def tgA (n : Int) (l : List Cn) (a b : Int) : List Int := if tgE n l a b = 0 then tgX l n.toNat a.toNat else []
theorem adN_rg {n : Nat} {l : List Cn} {R Y : List Int} (hl : allOK n l) (hR : ∀ j, j < n → R.getD j 0 ≠ NN → -(9007199254740992 * ((n : Int) - 1)) ≤ R.getD j 0 ∧ R.getD j 0 ≤ 9007199254740992 * ((n : Int) - 1)) (hY : ∀ j, -(9007199254740992 * ((n : Int) - 1)) ≤ Y.getD j 0 ∧ Y.getD j 0 ≤ 0) (hn : 1 ≤ n) :
    ∀ x, x ≤ l.length → 0 ≤ adN R Y l x ∧ adN R Y l x ≤ 9007199254740992 * (2 * (n : Int) - 1)
  | 0, _ => by unfold adN; omega
  | x + 1, hx => by
    have ih := adN_rg hl hR hY hn x (by omega)
    have hc := hl _ (getD_mem l x cn0 (by omega))
    unfold adN
    split
    · rename_i h
      have h1 := hR (l.getD x cn0).b.toNat (by omega) h.2
      have h2 := hY (l.getD x cn0).a.toNat
      have h3 := mxJ_is (adN R Y l x) (R.getD (l.getD x cn0).b.toNat 0 - (l.getD x cn0).w - Y.getD (l.getD x cn0).a.toNat 0)
      omega
    · exact ih
theorem row_rg {n : Nat} {l : List Cn} {y : Nat → Int} (hs : Sys n l y) {a : Nat} (ha : a < n) : (rowA l n a).length = n ∧ ∀ j, j < n → (rowA l n a).getD j 0 ≠ NN → -(9007199254740992 * ((n : Int) - 1)) ≤ (rowA l n a).getD j 0 ∧ (rowA l n a).getD j 0 ≤ 9007199254740992 * ((n : Int) - 1) :=
  ⟨(fw_sq hs.ok).row a ha, fun _ hj h => fw_rng hs ha hj h⟩
theorem lst_rg {n : Nat} {l : List Cn} (hn : 1 ≤ n) (hl : allOK n l) (j : Nat) : -(9007199254740992 * ((n : Int) - 1)) ≤ (lst l n (n - 1)).getD j 0 ∧ (lst l n (n - 1)).getD j 0 ≤ 0 := by
  have := lst_bnd hl (n - 1) j
  rw [show (((n - 1 : Nat) : Int)) = (n : Int) - 1 by omega] at this
  exact this
/-- A round that lessens nothing leaves the values as they are, from there on. -/
theorem lst_fix {l : List Cn} {n r : Nat} (hl : allOK n l) (h : chgL (byN l n r) = false) : ∀ k, lst l n (r + k) = lst l n r
  | 0 => rfl
  | k + 1 => by
    have ih := lst_fix hl h k
    show (rlN (lst l n (r + k)) l l.length).1 = _
    rw [ih]
    exact (rlN_no (X := lst l n r) (by rw [lst_len]; exact hl) l.length (Nat.le_refl _) h).1
theorem rsvA_eq {n : Nat} {l : List Cn} (hn : 1 ≤ n) (h : cchk n l = 0) (hl : allOK n l) (hc : cyc l n = false) : rsvA n l = lst l n (n - 1) := by
  have hE : rsvE n l = 0 := by
    rw [← bndE_eq]
    unfold bndE
    rw [if_neg (not_not_intro h), Int.toNat_natCast, hc]; rfl
  obtain ⟨_, h2⟩ := rsv_zero hE
  rw [Int.toNat_natCast] at h2
  unfold rsvA
  rw [if_pos hE, Int.toNat_natCast]
  rw [Option.isSome_iff_exists] at h2
  obtain ⟨r, hr⟩ := h2
  rw [hr]
  unfold slvI at hr
  rw [List.find?_range_eq_some] at hr
  obtain ⟨h3, h4, h5⟩ := hr
  have h3 : chgL (byN l n r) = false := by simpa using h3
  have hrn : r ≤ n - 1 := by
    rcases Nat.lt_or_ge (n - 1) r with h6 | h6
    · have := h5 (n - 1) h6
      rw [show chgL (byN l n (n - 1)) = cyc l n from rfl, hc] at this
      cases this
    · exact h6
  have := lst_fix hl h3 (n - 1 - r)
  rw [show r + (n - 1 - r) = n - 1 by omega] at this
  exact this.symm
end Go.Vx.L53
