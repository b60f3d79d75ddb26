/- Lemmas of a small executor for the model, and contracts of functions, used for the law that this claim proves. No condition. -/
import Derived.Test.YtodbfpjjahpahaaGreatDoorDE1
set_option linter.unusedSimpArgs false
set_option linter.unusedVariables false
namespace Go.Vx.L58
theorem countP_lt' {α : Type} {p q : α → Bool} (h : ∀ x, p x = true → q x = true) : ∀ {l : List α}, (∃ x, x ∈ l ∧ q x = true ∧ p x = false) → l.countP p < l.countP q
 | [], ⟨_, h1, _⟩ => by cases h1
 | a :: l, ⟨x, h1, h2, h3⟩ => by
  have hle : l.countP p ≤ l.countP q := List.countP_mono_left fun x _ => h x
  rw [List.countP_cons, List.countP_cons]
  rcases List.mem_cons.1 h1 with rfl | h1
  ·rw [h2, h3]; simp; omega
  ·have ih := countP_lt' h ⟨x, h1, h2, h3⟩
   cases hp : p a
   ·simp; omega
   ·rw [h a hp]; simp; omega
theorem dst_lt {G : NetP} (hG : G.OK) {D : Nat → Nat → Int} (hD : G.Dst D) {i : Nat} (hi : i < G.n) : ∀ (k : Nat) (y : Nat), y < G.n → D i y = k → k + 1 ≤ (List.range G.n).countP (fun z => decide (0 ≤ D i z) && decide (D i z ≤ k))
 | 0, y, hy, hk => by
  have : 0 < (List.range G.n).countP (fun z => decide (0 ≤ D i z) && decide (D i z ≤ (0 : Nat))) := by
   rw [List.countP_pos_iff]
   exact ⟨y, List.mem_range.2 hy, by simp; omega⟩
  omega
 | k + 1, y, hy, hk => by
  obtain ⟨p, z, q, hp, hz⟩ := hD.back i y hi hy (by omega)
  obtain ⟨⟨_, hzn⟩, _⟩ := hG.pe_ok _ _ _ _ hp
  have ih := dst_lt hG hD hi k z hzn (by omega)
  have := countP_lt' (p := fun z => decide (0 ≤ D i z) && decide (D i z ≤ k)) (q := fun z => decide (0 ≤ D i z) && decide (D i z ≤ (k + 1 : Nat)))
   (fun x h => by simp only [Bool.and_eq_true, decide_eq_true_eq] at h ⊢; omega) (l := List.range G.n) ⟨y, List.mem_range.2 hy, by simp; omega, by
    rw [Bool.and_eq_false_iff]; right; exact decide_eq_false (by omega)⟩
  omega
theorem dst_lt_n {G : NetP} (hG : G.OK) {D : Nat → Nat → Int} (hD : G.Dst D) {i y : Nat} (hi : i < G.n) (hy : y < G.n) : D i y < G.n := by
 by_cases h : 0 ≤ D i y
 ·obtain ⟨k, hk⟩ := Int.eq_ofNat_of_zero_le h
  have h1 := dst_lt hG hD hi k y hy hk
  have h2 := List.countP_le_length (p := fun z => decide (0 ≤ D i z) && decide (D i z ≤ k)) (l := List.range G.n)
  rw [List.length_range] at h2
  omega
 ·omega
def expX (ow : Nat → DS) (d : Nat → Int) (x : Nat) : Nat → Nat × Int
 | 0 => (x, 0)
 | i + 1 => if 0 ≤ d i ∧ lessD (ow i) (ow (expX ow d x i).1) = true then (i, d i) else expX ow d x i
theorem ow_less {G : NetP} (hG : G.OK) {i j : Nat} (hi : i < G.n) (hj : j < G.n) (hij : i ≠ j) : lessD (G.ow i) (G.ow j) = ltM (G.ow i) (G.ow j) := by
 cases h : ltM (G.ow i) (G.ow j)
 ·cases h2 : ltM (G.ow j) (G.ow i)
  ·exfalso
   have := lexB_total (a := (G.ow i).mk6) (b := (G.ow j).mk6) rfl h h2
   have := mk6_gm this
   rw [hG.gm, hG.gm] at this
   exact hij (hG.inj i j hi hj this)
  ·exact less_false_of_ltM h2
 ·exact less_of_ltM h
theorem ltM_trans {a b c : DS} (h : ltM a b = true) (g : ltM b c = true) : ltM a c = true := lexB_trans h g
theorem ow_total {G : NetP} (hG : G.OK) {i j : Nat} (hi : i < G.n) (hj : j < G.n) (hij : i ≠ j) (h : ltM (G.ow i) (G.ow j) = false) : ltM (G.ow j) (G.ow i) = true := by
 cases h2 : ltM (G.ow j) (G.ow i)
 ·exfalso
  have := lexB_total (a := (G.ow i).mk6) (b := (G.ow j).mk6) rfl h h2
  have := mk6_gm this
  rw [hG.gm, hG.gm] at this
  exact hij (hG.inj i j hi hj this)
 ·rfl
theorem expX_spec {G : NetP} (hG : G.OK) {D : Nat → Nat → Int} (hD : G.Dst D) {x : Nat} (hx : x < G.n) : ∀ i, i ≤ G.n → (expX G.ow (D x) x i).1 < G.n ∧ 0 ≤ D x (expX G.ow (D x) x i).1 ∧ (expX G.ow (D x) x i).2 = D x (expX G.ow (D x) x i).1 ∧
  ∀ j, (j < i ∨ j = x) → 0 ≤ D x j → j ≠ (expX G.ow (D x) x i).1 → ltM (G.ow (expX G.ow (D x) x i).1) (G.ow j) = true
 | 0, _ => by
  refine ⟨hx, by show 0 ≤ D x x; rw [hD.zero x hx]; omega, (hD.zero x hx).symm, fun j hj _ hn => ?_⟩
  rcases hj with hj | rfl
  ·omega
  ·exact absurd rfl hn
 | i + 1, hi => by
  obtain ⟨h1, h2, h3, h4⟩ := expX_spec hG hD hx i (by omega)
  generalize hc : expX G.ow (D x) x i = c at *
  have e : expX G.ow (D x) x (i + 1) = if 0 ≤ D x i ∧ lessD (G.ow i) (G.ow c.1) = true then (i, D x i) else c := by rw [← hc]; rfl
  by_cases h : 0 ≤ D x i ∧ lessD (G.ow i) (G.ow c.1) = true
  ·rw [e, if_pos h]
   have hne : i ≠ c.1 := fun e => by rw [e, lessD_irr] at h; exact absurd h.2 (by simp)
   have hlt : ltM (G.ow i) (G.ow c.1) = true := by rw [← ow_less hG (by omega) h1 hne]; exact h.2
   refine ⟨by show i < G.n; omega, h.1, rfl, fun j hj hd hn => ?_⟩
   show ltM (G.ow i) (G.ow j) = true
   by_cases hjc : j = c.1
   ·rw [hjc]; exact hlt
   ·refine ltM_trans hlt (h4 j ?_ hd hjc)
    rcases hj with hj | hj
    ·by_cases hji : j = i
     ·exact absurd hji hn
     ·exact .inl (by omega)
    ·exact .inr hj
  ·rw [e, if_neg h]
   refine ⟨h1, h2, h3, fun j hj hd hn => ?_⟩
   by_cases hji : j = i
   ·subst hji
    have hf : ltM (G.ow j) (G.ow c.1) = false := by
     rw [← ow_less hG (by omega) h1 hn]
     cases hl : lessD (G.ow j) (G.ow c.1)
     ·rfl
     ·exact absurd ⟨hd, hl⟩ h
    exact ow_total hG (by omega) h1 hn hf
   ·exact h4 j (hj.imp (by omega) id) hd hn
theorem best_of_exp {G : NetP} (hG : G.OK) {D : Nat → Nat → Int} (hD : G.Dst D) (hs : ∀ i j, i < G.n → j < G.n → D i j = D j i) {x : Nat} (hx : x < G.n) : G.Best D (expX G.ow (D x) x G.n).1 ∧ (expX G.ow (D x) x G.n).2 = D (expX G.ow (D x) x G.n).1 x ∧ 0 ≤ D (expX G.ow (D x) x G.n).1 x := by
 obtain ⟨h1, h2, h3, h4⟩ := expX_spec hG hD hx G.n (Nat.le_refl _)
 generalize expX G.ow (D x) x G.n = c at *
 refine ⟨⟨h1, fun i hi hd hn => h4 i (.inl hi) ?_ hn⟩, by rw [h3, hs x c.1 hx h1], by rw [hs c.1 x h1 hx]; exact h2⟩
 exact hD.comp x i c.1 hx hi h1 h2 (by rw [hs i c.1 hi h1]; exact hd)
end Go.Vx.L58
