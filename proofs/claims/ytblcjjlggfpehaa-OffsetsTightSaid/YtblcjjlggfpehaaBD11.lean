/- Lemmas of a small executor for the model, and contracts of functions, used for the law that this claim proves. No condition. -/
import Derived.Test.YtblcjjlggfpehaaBD4
import Derived.Test.YtblcjjlggfpehaaBD8
set_option linter.unusedSimpArgs false
set_option linter.unusedVariables false
set_option maxRecDepth 100000
namespace Go.Vx.L53
open Go Go.Proofs
/-! Bounds by the greatest weight that a log's constraints have. -/
def wOK (B : Int) (l : List Cn) : Prop := ∀ c ∈ l, -B ≤ c.w ∧ c.w ≤ B
theorem sp_bdB {B : Int} {l : List Cn} (hl : wOK B l) {k a b : Nat} {w : Int} {vs : List Nat} (h : SP l k a b w vs) : w ≤ B * ((vs.length : Int) - 1) := by
  induction h with
  | nil => simp
  | snoc _ _ hc _ _ ih =>
    rename_i vs _ _ _ _ _
    have := (hl _ hc).2
    simp only [List.length_cons]
    have e : B * (((vs.length + 1 : Nat) : Int) - 1) = B * ((vs.length : Int) - 1) + B := by
      rw [show ((vs.length + 1 : Nat) : Int) - 1 = ((vs.length : Int) - 1) + 1 by omega, Int.mul_add, Int.mul_one]
    rw [e]
    omega
theorem lst_bdB {B : Int} {l : List Cn} {n : Nat} (hB : 0 ≤ B) (hl : allOK n l) (hw : wOK B l) : ∀ (r b : Nat), -(B * r) ≤ (lst l n r).getD b 0
  | 0, b => by
    rw [lst, List.getD_eq_getElem?_getD, List.getElem?_replicate]
    split <;> simp
  | r + 1, b => by
    have e : B * ((r + 1 : Nat) : Int) = B * r + B := by rw [Int.natCast_add, Int.mul_add]; simp
    rw [e]
    rcases rlN_at (X := lst l n r) (l := l) l.length (Nat.le_refl _) b with h | ⟨c, hc, _, h⟩
    · have := lst_bdB hB hl hw r b
      rw [lst, h]; omega
    · have := lst_bdB hB hl hw r c.a.toNat
      have := (hw c hc).1
      rw [lst, h]; omega
/-- What a row of the closure, and the rounds' values, are bounded by. -/
theorem row_bdB {B : Int} {n : Nat} {l : List Cn} (hB : 0 ≤ B) (hm : 1 ≤ n ∧ n ≤ 160) (hl : allOK n l) (hw : wOK B l) (hc : cyc l n = false) {i j : Nat} (hi : i < n) (hj : j < n) (h : mg (fw n l) i j ≠ NN) :
    -(B * ((n : Int) - 1)) ≤ mg (fw n l) i j ∧ mg (fw n l) i j ≤ B * ((n : Int) - 1) := by
  have hs := sys_of hm hl hc
  have hinv := fw_inv hs
  have hwk := hinv.snd i j hi hj h
  have hp : pot l fun v => (lst l n (n - 1)).getD v 0 := lst_pot hl hc
  constructor
  · have h1 := wk_pot hp hwk
    have h2 := lst_bdB hB hl hw (n - 1) j
    have h3 := (lst_bnd hl (n - 1) i).2
    rw [show (((n - 1 : Nat) : Int)) = (n : Int) - 1 by omega] at h2
    omega
  · obtain ⟨w', vs, h1, h2, h3⟩ := wk_path hl hp hi hwk
    have h4 := hinv.cmp i j hi hj w' (sp_wk h1)
    have h5 := sp_bdB hw h1
    have h6 : B * ((vs.length : Int) - 1) ≤ B * ((n : Int) - 1) := Int.mul_le_mul_of_nonneg_left (by omega) hB
    omega
/-- A greatest one of what the loop looks at. -/
theorem adN_ge {R Y : List Int} {l : List Cn} : ∀ x, x ≤ l.length → ∀ z, z < x → R.getD (l.getD z cn0).a.toNat 0 = NN → R.getD (l.getD z cn0).b.toNat 0 ≠ NN → R.getD (l.getD z cn0).b.toNat 0 - (l.getD z cn0).w - Y.getD (l.getD z cn0).a.toNat 0 ≤ adN R Y l x
  | 0, _ => fun z hz => by omega
  | x + 1, hx => fun z hz h1 h2 => by
    have h3 := mxJ_is (adN R Y l x) (R.getD (l.getD x cn0).b.toNat 0 - (l.getD x cn0).w - Y.getD (l.getD x cn0).a.toNat 0)
    unfold adN
    by_cases e : z = x
    · subst e
      rw [if_pos ⟨h1, h2⟩]; omega
    · have ih := adN_ge (Y := Y) x (by omega) z (by omega) h1 h2
      split <;> omega
theorem adN_bdB {B K : Int} {n : Nat} {l : List Cn} {R Y : List Int} (hB : 0 ≤ B) (hK : 0 ≤ K) (hl : allOK n l) (hw : wOK B l) (hR : ∀ j, j < n → R.getD j 0 ≠ NN → R.getD j 0 ≤ K) (hY : ∀ j, -K ≤ Y.getD j 0) :
    ∀ x, x ≤ l.length → 0 ≤ adN R Y l x ∧ adN R Y l x ≤ 2 * K + B
  | 0, _ => by unfold adN; omega
  | x + 1, hx => by
    have ih := adN_bdB hB hK hl hw hR hY x (by omega)
    have hc := hl _ (getD_mem l x cn0 (by omega))
    have hcw := hw _ (getD_mem l x cn0 (by omega))
    unfold adN
    split
    · rename_i h
      have h1 := hR (l.getD x cn0).b.toNat (by omega) h.2
      have h2 := hY (l.getD x cn0).a.toNat
      have h3 := mxJ_is (adN R Y l x) (R.getD (l.getD x cn0).b.toNat 0 - (l.getD x cn0).w - Y.getD (l.getD x cn0).a.toNat 0)
      omega
    · exact ih
theorem tgX_get {l : List Cn} {n a j : Nat} (hrl : (rowA l n a).length = n) (hj : j < n) : (tgX l n a).getD j 0 = tgW (rowA l n a) (lst l n (n - 1)) (adN (rowA l n a) (lst l n (n - 1)) l l.length) j := by
  unfold tgX tgP
  rw [List.getD_eq_getElem?_getD, List.getElem?_append_left (by simpa using hj), List.getElem?_map, List.getElem?_range hj]; rfl
/-- The witness is a solution. -/
theorem tgX_pot {n : Nat} {l : List Cn} (hm : 1 ≤ n ∧ n ≤ 160) (hl : allOK n l) (hc : cyc l n = false) {a : Nat} (ha : a < n) : pot l fun v => (tgX l n a).getD v 0 := by
  have hs := sys_of hm hl hc
  have hinv := fw_inv hs
  have hrl := (row_rg hs ha).1
  have hp : pot l fun v => (lst l n (n - 1)).getD v 0 := lst_pot hl hc
  intro c hcm
  obtain ⟨z, hz, rfl⟩ := mem_get (d := cn0) hcm
  obtain ⟨⟨a0, a1⟩, ⟨b0, b1⟩, _⟩ := hl _ hcm
  have h1 := tgX_get (l := l) (a := a) hrl (show (l.getD z cn0).a.toNat < n by omega)
  have h2 := tgX_get (l := l) (a := a) hrl (show (l.getD z cn0).b.toNat < n by omega)
  have h3 := hp _ hcm
  have h4 := adN_ge (R := rowA l n a) (Y := lst l n (n - 1)) (l := l) l.length (Nat.le_refl _) z hz
  simp only at h3 ⊢
  rw [h1, h2]
  generalize hk : adN (rowA l n a) (lst l n (n - 1)) l l.length = k at *
  unfold tgW
  have hfin : (rowA l n a).getD (l.getD z cn0).a.toNat 0 ≠ NN → (rowA l n a).getD (l.getD z cn0).b.toNat 0 ≠ NN ∧ (rowA l n a).getD (l.getD z cn0).b.toNat 0 ≤ (rowA l n a).getD (l.getD z cn0).a.toNat 0 + (l.getD z cn0).w := fun h => by
    have g := hinv.snd a (l.getD z cn0).a.toNat ha (by omega) h
    exact hinv.cmp a (l.getD z cn0).b.toNat ha (by omega) _ (.comp g (by omega) (.edge hcm))
  by_cases g1 : (rowA l n a).getD (l.getD z cn0).a.toNat 0 = NN
  · rw [if_pos g1]
    by_cases g2 : (rowA l n a).getD (l.getD z cn0).b.toNat 0 = NN
    · rw [if_pos g2]; omega
    · rw [if_neg g2]
      have := h4 g1 g2
      omega
  · obtain ⟨g2, g3⟩ := hfin g1
    rw [if_neg g1, if_neg g2]; omega
theorem tgX_diff {n : Nat} {l : List Cn} (hm : 1 ≤ n ∧ n ≤ 160) (hl : allOK n l) (hc : cyc l n = false) {a b : Nat} (ha : a < n) (hb : b < n) (h : mg (fw n l) a b ≠ NN) : (tgX l n a).getD b 0 - (tgX l n a).getD a 0 = mg (fw n l) a b := by
  have hs := sys_of hm hl hc
  have hinv := fw_inv hs
  have hrl := (row_rg hs ha).1
  have hp : pot l fun v => (lst l n (n - 1)).getD v 0 := lst_pot hl hc
  have haa := hinv.cmp a a ha ha 0 (.nil a)
  have h0 : mg (fw n l) a a = 0 := by
    have := wk_pot hp (hinv.snd a a ha ha haa.1)
    omega
  rw [tgX_get hrl hb, tgX_get hrl ha]
  unfold tgW
  rw [if_neg (show (rowA l n a).getD b 0 ≠ NN from h), if_neg (show (rowA l n a).getD a 0 ≠ NN from haa.1)]
  show mg (fw n l) a b - mg (fw n l) a a = _
  omega
theorem tgX_bd {n : Nat} {l : List Cn} (hm : 1 ≤ n ∧ n ≤ 160) (hl : allOK n l) (hw : wOK 5629499534213120 l) (hc : cyc l n = false) {a j : Nat} (ha : a < n) (hj : j < n) : -(5629499534213120 * 159) ≤ (tgX l n a).getD j 0 ∧ (tgX l n a).getD j 0 ≤ 5629499534213120 * 319 := by
  have hs := sys_of hm hl hc
  have hrl := (row_rg hs ha).1
  have hR : ∀ j, j < n → (rowA l n a).getD j 0 ≠ NN → -(5629499534213120 * ((n : Int) - 1)) ≤ (rowA l n a).getD j 0 ∧ (rowA l n a).getD j 0 ≤ 5629499534213120 * ((n : Int) - 1) := fun j hj h => row_bdB (by decide) hm hl hw hc ha hj h
  have hY : ∀ j, -(5629499534213120 * ((n : Int) - 1)) ≤ (lst l n (n - 1)).getD j 0 := fun j => by
    have := lst_bdB (B := 5629499534213120) (by decide) hl hw (n - 1) j
    rw [show (((n - 1 : Nat) : Int)) = (n : Int) - 1 by omega] at this
    exact this
  have hY0 := fun j => (lst_bnd hl (n - 1) j).2
  have hk := adN_bdB (B := 5629499534213120) (K := 5629499534213120 * ((n : Int) - 1)) (by decide) (by omega) hl hw (fun j hj h => (hR j hj h).2) hY l.length (Nat.le_refl _)
  rw [tgX_get hrl hj]
  unfold tgW
  have h1 := hY j
  have h2 := hY0 j
  split
  · omega
  · rename_i h
    have := hR j hj h
    omega
end Go.Vx.L53
