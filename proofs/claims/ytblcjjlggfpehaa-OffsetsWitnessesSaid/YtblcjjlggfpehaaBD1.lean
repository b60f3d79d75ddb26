/- Lemmas of a small executor for the model, and contracts of functions, used for the law that this claim proves. No condition. -/
import Derived.Test.YtblcjjlggfpehaaBC25
set_option linter.unusedSimpArgs false
set_option linter.unusedVariables false
set_option maxRecDepth 100000
namespace Go.Vx.L53
open Go Go.Proofs
/-- Walks whose inner nodes are below k. -/
inductive Wk (l : List Cn) (k : Nat) : Nat → Nat → Int → Prop where
  | nil (i : Nat) : Wk l k i i 0
  | edge {c : Cn} (h : c ∈ l) : Wk l k c.a.toNat c.b.toNat c.w
  | comp {i m j : Nat} {w1 w2 : Int} (h1 : Wk l k i m w1) (hm : m < k) (h2 : Wk l k m j w2) : Wk l k i j (w1 + w2)
/-- Paths that meet no node twice. -/
inductive SP (l : List Cn) (k a : Nat) : Nat → Int → List Nat → Prop where
  | nil : SP l k a a 0 [a]
  | snoc {b : Nat} {w : Int} {vs : List Nat} {c : Cn} (h : SP l k a b w vs) (hb : b = a ∨ b < k) (hc : c ∈ l) (he : c.a.toNat = b) (hn : c.b.toNat ∉ vs) : SP l k a c.b.toNat (w + c.w) (c.b.toNat :: vs)
/-- Values that satisfy the constraints. -/
def pot (l : List Cn) (y : Nat → Int) : Prop := ∀ c ∈ l, y c.b.toNat - y c.a.toNat ≤ c.w
theorem wk_pot {l : List Cn} {y : Nat → Int} (hy : pot l y) {k i j : Nat} {w : Int} (h : Wk l k i j w) : y j - y i ≤ w := by
  induction h with
  | nil i => omega
  | edge h => exact hy _ h
  | comp _ _ _ h1 h2 => omega
theorem wk_mono {l : List Cn} {k k' i j : Nat} {w : Int} (hk : k ≤ k') (h : Wk l k i j w) : Wk l k' i j w := by
  induction h with
  | nil i => exact .nil i
  | edge h => exact .edge h
  | comp _ hm _ h1 h2 => exact .comp h1 (by omega) h2
theorem sp_head {l : List Cn} {k a b : Nat} {w : Int} {vs : List Nat} (h : SP l k a b w vs) : a ∈ vs ∧ b ∈ vs := by
  induction h with
  | nil => simp
  | snoc _ _ _ _ _ ih => exact ⟨by simp [ih.1], by simp⟩
theorem sp_start {l : List Cn} {k a b : Nat} {w : Int} {vs : List Nat} (h : SP l k a b w vs) (e : b = a) : w = 0 ∧ vs = [a] := by
  cases h with
  | nil => exact ⟨rfl, rfl⟩
  | snoc h _ _ _ hn => exact absurd (sp_head h).1 (e ▸ hn)
theorem sp_wk {l : List Cn} {k a b : Nat} {w : Int} {vs : List Nat} (h : SP l k a b w vs) : Wk l k a b w := by
  induction h with
  | nil => exact .nil a
  | snoc h hb hc he hn ih =>
    rename_i b w vs c
    subst he
    rcases hb with e | hb
    · obtain ⟨rfl, _⟩ := sp_start h e
      rw [Int.zero_add, ← e]; exact .edge hc
    · exact .comp ih hb (.edge hc)
theorem sp_nodup {l : List Cn} {k a b : Nat} {w : Int} {vs : List Nat} (h : SP l k a b w vs) : vs.Nodup := by
  induction h with
  | nil => simp
  | snoc _ _ _ _ hn ih => exact List.nodup_cons.2 ⟨hn, ih⟩
theorem sp_lt {l : List Cn} {n k a b : Nat} (hl : allOK n l) (ha : a < n) {w : Int} {vs : List Nat} (h : SP l k a b w vs) : ∀ v ∈ vs, v < n := by
  induction h with
  | nil => simpa using ha
  | snoc _ _ hc _ _ ih =>
    intro v hv
    rcases List.mem_cons.1 hv with rfl | hv
    · have := (hl _ hc).2.1; omega
    · exact ih v hv
theorem nodup_len : ∀ (n : Nat) (vs : List Nat), vs.Nodup → (∀ v ∈ vs, v < n) → vs.length ≤ n
  | 0, vs, _, h => by
    rcases vs with _ | ⟨v, _⟩
    · simp
    · exact absurd (h v (by simp)) (by omega)
  | n + 1, vs, hn, h => by
    have h1 := nodup_len n (vs.erase n) (hn.erase n) fun v hv => by
      have := (hn.mem_erase_iff).1 hv
      have := h v this.2
      omega
    by_cases hm : n ∈ vs
    · rw [List.length_erase_of_mem hm] at h1; omega
    · rw [List.erase_of_not_mem hm] at h1; omega
/-- The part of a path up to one of its nodes. -/
theorem sp_prefix {l : List Cn} {y : Nat → Int} (hy : pot l y) {k a b : Nat} {w : Int} {vs : List Nat} (h : SP l k a b w vs) {u : Nat} (hu : u ∈ vs) : ∃ w1 vs1, SP l k a u w1 vs1 ∧ y b - y u ≤ w - w1 := by
  induction h with
  | nil =>
    obtain rfl : u = a := by simpa using hu
    exact ⟨0, [u], .nil, by omega⟩
  | snoc h hb hc he hn ih =>
    rename_i b w vs c
    subst he
    rcases List.mem_cons.1 hu with rfl | hu
    · exact ⟨_, _, .snoc h hb hc rfl hn, by omega⟩
    · obtain ⟨w1, vs1, h1, h2⟩ := ih hu
      have := hy c hc
      exact ⟨w1, vs1, h1, by omega⟩
/-- A path along a walk. -/
theorem wk_sp {l : List Cn} {y : Nat → Int} (hy : pot l y) {k a i j : Nat} {w : Int} (h : Wk l k i j w) : ∀ {w0 : Int} {vs0 : List Nat}, SP l k a i w0 vs0 → (i = a ∨ i < k) → ∃ w' vs', SP l k a j w' vs' ∧ w' ≤ w0 + w := by
  induction h with
  | nil i => intro w0 vs0 h _; exact ⟨_, _, h, by omega⟩
  | edge hc =>
    rename_i c
    intro w0 vs0 h hi
    by_cases hn : c.b.toNat ∈ vs0
    · obtain ⟨w1, vs1, h1, h2⟩ := sp_prefix hy h hn
      have := hy c hc
      exact ⟨w1, vs1, h1, by omega⟩
    · exact ⟨_, _, .snoc h hi hc rfl hn, Int.le_refl _⟩
  | comp _ hm _ ih1 ih2 =>
    intro w0 vs0 h hi
    obtain ⟨w1, vs1, h1, h2⟩ := ih1 h hi
    obtain ⟨w2, vs2, h3, h4⟩ := ih2 h1 (.inr hm)
    exact ⟨w2, vs2, h3, by omega⟩
theorem sp_bd {l : List Cn} {n k a b : Nat} (hl : allOK n l) {w : Int} {vs : List Nat} (h : SP l k a b w vs) : w ≤ 9007199254740992 * ((vs.length : Int) - 1) := by
  induction h with
  | nil => simp
  | snoc _ _ hc _ _ ih =>
    have := (hl _ hc).2.2.2
    simp only [List.length_cons]; omega
/-- A walk leads along a path of a bounded weight that is not greater. -/
theorem wk_path {l : List Cn} {n : Nat} (hl : allOK n l) {y : Nat → Int} (hy : pot l y) {k i j : Nat} (hi : i < n) {w : Int} (h : Wk l k i j w) : ∃ w' vs, SP l k i j w' vs ∧ w' ≤ w ∧ vs.length ≤ n := by
  obtain ⟨w', vs, h1, h2⟩ := wk_sp hy h (.nil (a := i)) (.inl rfl)
  exact ⟨w', vs, h1, by omega, nodup_len n vs (sp_nodup h1) (sp_lt hl hi h1)⟩
/-! The rounds. -/
theorem rlN_no {X : List Int} {l : List Cn} (hl : allOK X.length l) : ∀ x, x ≤ l.length → chgL (rlN X l x).2 = false → (rlN X l x).1 = X ∧ ∀ z, z < x → ¬ X.getD (l.getD z cn0).a.toNat 0 + (l.getD z cn0).w < X.getD (l.getD z cn0).b.toNat 0
  | 0, _, _ => ⟨rfl, fun z h => by omega⟩
  | x + 1, hx, h => by
    have hc : rlN X l (x + 1) = rl1 X x (l.getD x cn0) (rlN X l x) := rfl
    have hok := hl _ (getD_mem l x cn0 (by omega))
    by_cases hlt : X.getD (l.getD x cn0).a.toNat 0 + (l.getD x cn0).w < (rlN X l x).1.getD (l.getD x cn0).b.toNat 0
    · exfalso
      rw [hc] at h
      unfold rl1 at h
      rw [if_pos hlt] at h
      simp only at h
      rw [chgL_set (by rw [(rlN_len X l x).2]; omega) (by omega)] at h
      cases h
    · rw [hc] at h ⊢
      unfold rl1 at h ⊢
      rw [if_neg hlt] at h ⊢
      obtain ⟨h1, h2⟩ := rlN_no hl x (by omega) h
      refine ⟨h1, fun z hz => ?_⟩
      by_cases e : z = x
      · rw [e]; rw [h1] at hlt; exact hlt
      · exact h2 z (by omega)
theorem rlN_le {X : List Int} {l : List Cn} (hl : allOK X.length l) : ∀ x, x ≤ l.length → ∀ b, (rlN X l x).1.getD b 0 ≤ X.getD b 0 ∧ (b < X.length → 0 ≤ (rlN X l x).2.getD b 0 → (rlN X l x).1.getD b 0 < X.getD b 0)
  | 0, _, b => by
    refine ⟨Int.le_refl _, fun hb h => ?_⟩
    have h : 0 ≤ (List.replicate X.length (-1 : Int)).getD b 0 := h
    rw [List.getD_eq_getElem?_getD, List.getElem?_replicate, if_pos hb] at h
    exact absurd h (by decide)
  | x + 1, hx, b => by
    have hc : rlN X l (x + 1) = rl1 X x (l.getD x cn0) (rlN X l x) := rfl
    have hok := hl _ (getD_mem l x cn0 (by omega))
    have ih := rlN_le hl x (by omega)
    have hlen := rlN_len X l x
    rw [hc]
    unfold rl1
    split
    · rename_i h
      simp only [getD_set]
      by_cases hb : b = (l.getD x cn0).b.toNat
      · subst hb
        have := (ih (l.getD x cn0).b.toNat).1
        rw [if_pos ⟨rfl, by rw [hlen.1]; omega⟩]
        exact ⟨by omega, fun _ _ => by omega⟩
      · rw [if_neg (fun h => hb h.1), if_neg (fun h => hb h.1)]; exact ih b
    · exact ih b
theorem rlN_in {X : List Int} {l : List Cn} (hl : allOK X.length l) : ∀ x, x ≤ l.length → ∀ z, z < x → (rlN X l x).1.getD (l.getD z cn0).b.toNat 0 ≤ X.getD (l.getD z cn0).a.toNat 0 + (l.getD z cn0).w
  | 0, _, z, h => by omega
  | x + 1, hx, z, hz => by
    have hc : rlN X l (x + 1) = rl1 X x (l.getD x cn0) (rlN X l x) := rfl
    have hok := hl _ (getD_mem l x cn0 (by omega))
    have ih := rlN_in hl x (by omega)
    have hlen := rlN_len X l x
    rw [hc]
    unfold rl1
    by_cases e : z = x
    · subst e
      split
      · show (List.set _ _ _).getD _ 0 ≤ _
        rw [getD_set, if_pos ⟨rfl, by rw [hlen.1]; omega⟩]; exact Int.le_refl _
      · omega
    · have h1 := ih z (by omega)
      split
      · rename_i h
        simp only [getD_set]
        split
        · rename_i h2
          rw [h2.1] at h1
          omega
        · exact h1
      · exact h1
theorem rlN_at {X : List Int} {l : List Cn} : ∀ x, x ≤ l.length → ∀ b, (rlN X l x).1.getD b 0 = X.getD b 0 ∨ ∃ c ∈ l, c.b.toNat = b ∧ (rlN X l x).1.getD b 0 = X.getD c.a.toNat 0 + c.w
  | 0, _, b => .inl rfl
  | x + 1, hx, b => by
    have hc : rlN X l (x + 1) = rl1 X x (l.getD x cn0) (rlN X l x) := rfl
    have ih := rlN_at (X := X) (l := l) x (by omega) b
    rw [hc]
    unfold rl1
    split
    · simp only [getD_set]
      split
      · rename_i h
        exact .inr ⟨_, getD_mem l x cn0 (by omega), h.1.symm, rfl⟩
      · exact ih
    · exact ih
theorem mem_get {α : Type} {l : List α} {c d : α} (h : c ∈ l) : ∃ z, z < l.length ∧ l.getD z d = c := by
  obtain ⟨z, hz, rfl⟩ := List.mem_iff_getElem.1 h
  exact ⟨z, hz, by rw [List.getD_eq_getElem?_getD, List.getElem?_eq_getElem hz]; rfl⟩
/-- The values of a round that lessens nothing are a solution. -/
theorem lst_pot {l : List Cn} {n r : Nat} (hl : allOK n l) (h : chgL (byN l n r) = false) : pot l (fun v => (lst l n r).getD v 0) := by
  intro c hc
  obtain ⟨z, hz, rfl⟩ := mem_get (d := cn0) hc
  have hX := lst_len l n r
  have := (rlN_no (X := lst l n r) (by rw [hX]; exact hl) l.length (Nat.le_refl _) h).2 z hz
  simp only; omega
theorem lst_succ_le {l : List Cn} {n r : Nat} (hl : allOK n l) (b : Nat) : (lst l n (r + 1)).getD b 0 ≤ (lst l n r).getD b 0 :=
  (rlN_le (by rw [lst_len]; exact hl) l.length (Nat.le_refl _) b).1
/-- A round's values are not above the weights of paths. -/
theorem lst_sp {l : List Cn} {n : Nat} (hl : allOK n l) {k a b : Nat} {w : Int} {vs : List Nat} (h : SP l k a b w vs) : ∀ r, vs.length ≤ r + 1 → (lst l n r).getD b 0 ≤ w := by
  induction h with
  | nil => intro r _; exact (lst_bnd hl r a).2
  | snoc h hb hc he hn ih =>
    rename_i b w vs c
    intro r hr
    have hvl : 1 ≤ vs.length := by
      have := (sp_head h).1
      rcases vs with _ | _
      · cases this
      · simp
    simp only [List.length_cons] at hr
    obtain ⟨r, rfl⟩ : ∃ q, r = q + 1 := ⟨r - 1, by omega⟩
    have h1 := ih r (by omega)
    obtain ⟨z, hz, rfl⟩ := mem_get (d := cn0) hc
    have h2 := rlN_in (X := lst l n r) (by rw [lst_len]; exact hl) l.length (Nat.le_refl _) z hz
    rw [← he] at h1
    show (rlN (lst l n r) l l.length).1.getD _ 0 ≤ _
    omega
/-- They are the weights of walks. -/
theorem lst_wk {l : List Cn} {n : Nat} (hl : allOK n l) : ∀ (r b : Nat), b < n → ∃ a, a < n ∧ Wk l n a b ((lst l n r).getD b 0)
  | 0, b, hb => ⟨b, hb, by
      rw [lst, List.getD_eq_getElem?_getD, List.getElem?_replicate, if_pos hb]; exact .nil b⟩
  | r + 1, b, hb => by
    rcases rlN_at (X := lst l n r) (l := l) l.length (Nat.le_refl _) b with h | ⟨c, hc, rfl, h⟩
    · obtain ⟨a, ha, h1⟩ := lst_wk hl r b hb
      exact ⟨a, ha, by rw [lst, h]; exact h1⟩
    · obtain ⟨a, ha, h1⟩ := lst_wk hl r c.a.toNat (by have := (hl c hc).1; omega)
      exact ⟨a, ha, by rw [lst, h]; exact .comp h1 (by have := (hl c hc).1; omega) (.edge hc)⟩
/-- Where there is a solution, the last round lessens nothing. -/
theorem cyc_of_pot {l : List Cn} {n : Nat} (hl : allOK n l) {y : Nat → Int} (hy : pot l y) {r : Nat} (hr : n ≤ r + 1) : chgL (byN l n r) = false := by
  rw [Bool.eq_false_iff]
  intro h
  unfold chgL at h
  rw [List.any_eq_true] at h
  obtain ⟨v, hv, h0⟩ := h
  obtain ⟨b, hb, rfl⟩ := mem_get (d := 0) hv
  rw [byN_len] at hb
  have h0 : 0 ≤ (byN l n r).getD b 0 := by simpa using h0
  have h1 := (rlN_le (X := lst l n r) (by rw [lst_len]; exact hl) l.length (Nat.le_refl _) b).2 (by rw [lst_len]; exact hb) h0
  obtain ⟨a, ha, h2⟩ := lst_wk hl (r + 1) b hb
  obtain ⟨w', vs, h3, h4, h5⟩ := wk_path hl hy ha h2
  have h6 := lst_sp hl h3 r (by omega)
  have h7 : (lst l n (r + 1)).getD b 0 < (lst l n r).getD b 0 := h1
  omega
/-- There is a cycle just if there is no solution. -/
theorem cyc_iff {l : List Cn} {n : Nat} (hn : 1 ≤ n) (hl : allOK n l) : cyc l n = false ↔ ∃ y, pot l y :=
  ⟨fun h => ⟨_, lst_pot hl h⟩, fun ⟨_, hy⟩ => cyc_of_pot hl hy (by omega)⟩
theorem slv_iff {l : List Cn} {n : Nat} (hn : 1 ≤ n) (hl : allOK n l) : (slvI l n).isSome = true ↔ ∃ y, pot l y := by
  constructor
  · intro h
    rw [Option.isSome_iff_exists] at h
    obtain ⟨r, h⟩ := h
    unfold slvI at h
    rw [List.find?_range_eq_some] at h
    exact ⟨_, lst_pot hl (r := r) (by simpa using h.1)⟩
  · rintro ⟨y, hy⟩
    have h := cyc_of_pot hl hy (r := n - 1) (by omega)
    rw [Option.isSome_iff_ne_none]
    intro h2
    unfold slvI at h2
    rw [List.find?_range_eq_none] at h2
    have := h2 (n - 1) (by omega)
    rw [h] at this
    cases this
theorem bndE_eq (n : Int) (l : List Cn) : bndE n l = rsvE n l := by
  unfold bndE rsvE
  by_cases h : cchk n l = 0
  · rw [if_neg (not_not_intro h), if_neg (not_not_intro h)]
    obtain ⟨m, rfl, hm, _, hok⟩ := cchk_zero h
    rw [Int.toNat_natCast]
    have h1 := cyc_iff hm.1 hok
    have h2 := slv_iff hm.1 hok
    cases hc : cyc l m
    · rw [hc] at h1
      rw [if_neg Bool.false_ne_true, if_pos (h2.2 (h1.1 rfl))]
    · rw [if_pos rfl, if_neg]
      intro h3
      have := h1.2 (h2.1 h3)
      rw [hc] at this; cases this
  · rw [if_pos h, if_pos h]
theorem bndA_eq (n : Int) (l : List Cn) : bndA n l = rbdA n l := by unfold bndA rbdA; rw [bndE_eq]
end Go.Vx.L53
