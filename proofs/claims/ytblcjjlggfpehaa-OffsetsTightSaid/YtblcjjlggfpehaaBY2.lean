/- Lemmas of a small executor for the model, and contracts of functions, used for the law that this claim proves. No condition. -/
import Derived.Test.YtblcjjlggfpehaaBC25
set_option linter.unusedSimpArgs false
set_option linter.unusedVariables false
set_option maxRecDepth 100000
namespace Go.Vx.L53
open Go Go.Proofs
/-- Walks whose inner nodes are below k. -/
inductive Wk (l : List Cn) (k : Nat) : Nat → Nat → Int → Prop where
  | nil (i : Nat) : Wk l k i i 0
  | edge {c : Cn} (h : c ∈ l) : Wk l k c.a.toNat c.b.toNat c.w
  | comp {i m j : Nat} {w1 w2 : Int} (h1 : Wk l k i m w1) (hm : m < k) (h2 : Wk l k m j w2) : Wk l k i j (w1 + w2)
/-- Paths that meet no node twice. -/
inductive SP (l : List Cn) (k a : Nat) : Nat → Int → List Nat → Prop where
  | nil : SP l k a a 0 [a]
  | snoc {b : Nat} {w : Int} {vs : List Nat} {c : Cn} (h : SP l k a b w vs) (hb : b = a ∨ b < k) (hc : c ∈ l) (he : c.a.toNat = b) (hn : c.b.toNat ∉ vs) : SP l k a c.b.toNat (w + c.w) (c.b.toNat :: vs)
/-- Values that satisfy the constraints. -/
def pot (l : List Cn) (y : Nat → Int) : Prop := ∀ c ∈ l, y c.b.toNat - y c.a.toNat ≤ c.w
theorem wk_pot {l : List Cn} {y : Nat → Int} (hy : pot l y) {k i j : Nat} {w : Int} (h : Wk l k i j w) : y j - y i ≤ w := by
  induction h with
  | nil i => omega
  | edge h => exact hy _ h
  | comp _ _ _ h1 h2 => omega
theorem wk_mono {l : List Cn} {k k' i j : Nat} {w : Int} (hk : k ≤ k') (h : Wk l k i j w) : Wk l k' i j w := by
  induction h with
  | nil i => exact .nil i
  | edge h => exact .edge h
  | comp _ hm _ h1 h2 => exact .comp h1 (by omega) h2
theorem sp_head {l : List Cn} {k a b : Nat} {w : Int} {vs : List Nat} (h : SP l k a b w vs) : a ∈ vs ∧ b ∈ vs := by
  induction h with
  | nil => simp
  | snoc _ _ _ _ _ ih => exact ⟨by simp [ih.1], by simp⟩
theorem sp_start {l : List Cn} {k a b : Nat} {w : Int} {vs : List Nat} (h : SP l k a b w vs) (e : b = a) : w = 0 ∧ vs = [a] := by
  cases h with
  | nil => exact ⟨rfl, rfl⟩
  | snoc h _ _ _ hn => exact absurd (sp_head h).1 (e ▸ hn)
theorem sp_wk {l : List Cn} {k a b : Nat} {w : Int} {vs : List Nat} (h : SP l k a b w vs) : Wk l k a b w := by
  induction h with
  | nil => exact .nil a
  | snoc h hb hc he hn ih =>
    rename_i b w vs c
    subst he
    rcases hb with e | hb
    · obtain ⟨rfl, _⟩ := sp_start h e
      rw [Int.zero_add, ← e]; exact .edge hc
    · exact .comp ih hb (.edge hc)
theorem sp_nodup {l : List Cn} {k a b : Nat} {w : Int} {vs : List Nat} (h : SP l k a b w vs) : vs.Nodup := by
  induction h with
  | nil => simp
  | snoc _ _ _ _ hn ih => exact List.nodup_cons.2 ⟨hn, ih⟩
theorem sp_lt {l : List Cn} {n k a b : Nat} (hl : allOK n l) (ha : a < n) {w : Int} {vs : List Nat} (h : SP l k a b w vs) : ∀ v ∈ vs, v < n := by
  induction h with
  | nil => simpa using ha
  | snoc _ _ hc _ _ ih =>
    intro v hv
    rcases List.mem_cons.1 hv with rfl | hv
    · have := (hl _ hc).2.1; omega
    · exact ih v hv
theorem nodup_len : ∀ (n : Nat) (vs : List Nat), vs.Nodup → (∀ v ∈ vs, v < n) → vs.length ≤ n
  | 0, vs, _, h => by
    rcases vs with _ | ⟨v, _⟩
    · simp
    · exact absurd (h v (by simp)) (by omega)
  | n + 1, vs, hn, h => by
    have h1 := nodup_len n (vs.erase n) (hn.erase n) fun v hv => by
      have := (hn.mem_erase_iff).1 hv
      have := h v this.2
      omega
    by_cases hm : n ∈ vs
    · rw [List.length_erase_of_mem hm] at h1; omega
    · rw [List.erase_of_not_mem hm] at h1; omega
/-- The part of a path up to one of its nodes. -/
theorem sp_prefix {l : List Cn} {y : Nat → Int} (hy : pot l y) {k a b : Nat} {w : Int} {vs : List Nat} (h : SP l k a b w vs) {u : Nat} (hu : u ∈ vs) : ∃ w1 vs1, SP l k a u w1 vs1 ∧ y b - y u ≤ w - w1 := by
  induction h with
  | nil =>
    obtain rfl : u = a := by simpa using hu
    exact ⟨0, [u], .nil, by omega⟩
  | snoc h hb hc he hn ih =>
    rename_i b w vs c
    subst he
    rcases List.mem_cons.1 hu with rfl | hu
    · exact ⟨_, _, .snoc h hb hc rfl hn, by omega⟩
    · obtain ⟨w1, vs1, h1, h2⟩ := ih hu
      have := hy c hc
      exact ⟨w1, vs1, h1, by omega⟩
/-- A path along a walk. -/
theorem wk_sp {l : List Cn} {y : Nat → Int} (hy : pot l y) {k a i j : Nat} {w : Int} (h : Wk l k i j w) : ∀ {w0 : Int} {vs0 : List Nat}, SP l k a i w0 vs0 → (i = a ∨ i < k) → ∃ w' vs', SP l k a j w' vs' ∧ w' ≤ w0 + w := by
  induction h with
  | nil i => intro w0 vs0 h _; exact ⟨_, _, h, by omega⟩
  | edge hc =>
    rename_i c
    intro w0 vs0 h hi
    by_cases hn : c.b.toNat ∈ vs0
    · obtain ⟨w1, vs1, h1, h2⟩ := sp_prefix hy h hn
      have := hy c hc
      exact ⟨w1, vs1, h1, by omega⟩
    · exact ⟨_, _, .snoc h hi hc rfl hn, Int.le_refl _⟩
  | comp _ hm _ ih1 ih2 =>
    intro w0 vs0 h hi
    obtain ⟨w1, vs1, h1, h2⟩ := ih1 h hi
    obtain ⟨w2, vs2, h3, h4⟩ := ih2 h1 (.inr hm)
    exact ⟨w2, vs2, h3, by omega⟩
theorem sp_bd {l : List Cn} {n k a b : Nat} (hl : allOK n l) {w : Int} {vs : List Nat} (h : SP l k a b w vs) : w ≤ 9007199254740992 * ((vs.length : Int) - 1) := by
  induction h with
  | nil => simp
  | snoc _ _ hc _ _ ih =>
    have := (hl _ hc).2.2.2
    simp only [List.length_cons]; omega
/-- A walk leads along a path of a bounded weight that is not greater. -/
theorem wk_path {l : List Cn} {n : Nat} (hl : allOK n l) {y : Nat → Int} (hy : pot l y) {k i j : Nat} (hi : i < n) {w : Int} (h : Wk l k i j w) : ∃ w' vs, SP l k i j w' vs ∧ w' ≤ w ∧ vs.length ≤ n := by
  obtain ⟨w', vs, h1, h2⟩ := wk_sp hy h (.nil (a := i)) (.inl rfl)
  exact ⟨w', vs, h1, by omega, nodup_len n vs (sp_nodup h1) (sp_lt hl hi h1)⟩
/-! The rounds. -/
theorem rlN_no {X : List Int} {l : List Cn} (hl : allOK X.length l) : ∀ x, x ≤ l.length → chgL (rlN X l x).2 = false → (rlN X l x).1 = X ∧ ∀ z, z < x → ¬ X.getD (l.getD z cn0).a.toNat 0 + (l.getD z cn0).w < X.getD (l.getD z cn0).b.toNat 0
  | 0, _, _ => ⟨rfl, fun z h => by omega⟩
  | x + 1, hx, h => by
    have hc : rlN X l (x + 1) = rl1 X x (l.getD x cn0) (rlN X l x) := rfl
    have hok := hl _ (getD_mem l x cn0 (by omega))
    by_cases hlt : X.getD (l.getD x cn0).a.toNat 0 + (l.getD x cn0).w < (rlN X l x).1.getD (l.getD x cn0).b.toNat 0
    · exfalso
      rw [hc] at h
      unfold rl1 at h
      rw [if_pos hlt] at h
      simp only at h
      rw [chgL_set (by rw [(rlN_len X l x).2]; omega) (by omega)] at h
      cases h
    · rw [hc] at h ⊢
      unfold rl1 at h ⊢
      rw [if_neg hlt] at h ⊢
      obtain ⟨h1, h2⟩ := rlN_no hl x (by omega) h
      refine ⟨h1, fun z hz => ?_⟩
      by_cases e : z = x
      · rw [e]; rw [h1] at hlt; exact hlt
      · exact h2 z (by omega)
theorem rlN_le {X : List Int} {l : List Cn} (hl : allOK X.length l) : ∀ x, x ≤ l.length → ∀ b, (rlN X l x).1.getD b 0 ≤ X.getD b 0 ∧ (b < X.length → 0 ≤ (rlN X l x).2.getD b 0 → (rlN X l x).1.getD b 0 < X.getD b 0)
  | 0, _, b => by
    refine ⟨Int.le_refl _, fun hb h => ?_⟩
    have h : 0 ≤ (List.replicate X.length (-1 : Int)).getD b 0 := h
    rw [List.getD_eq_getElem?_getD, List.getElem?_replicate, if_pos hb] at h
    exact absurd h (by decide)
  | x + 1, hx, b => by
    have hc : rlN X l (x + 1) = rl1 X x (l.getD x cn0) (rlN X l x) := rfl
    have hok := hl _ (getD_mem l x cn0 (by omega))
    have ih := rlN_le hl x (by omega)
    have hlen := rlN_len X l x
    rw [hc]
    unfold rl1
    split
    · rename_i h
      simp only [getD_set]
      by_cases hb : b = (l.getD x cn0).b.toNat
      · subst hb
        have := (ih (l.getD x cn0).b.toNat).1
        rw [if_pos ⟨rfl, by rw [hlen.1]; omega⟩]
        exact ⟨by omega, fun _ _ => by omega⟩
      · rw [if_neg (fun h => hb h.1), if_neg (fun h => hb h.1)]; exact ih b
    · exact ih b
theorem rlN_in {X : List Int} {l : List Cn} (hl : allOK X.length l) : ∀ x, x ≤ l.length → ∀ z, z < x → (rlN X l x).1.getD (l.getD z cn0).b.toNat 0 ≤ X.getD (l.getD z cn0).a.toNat 0 + (l.getD z cn0).w
  | 0, _, z, h => by omega
  | x + 1, hx, z, hz => by
    have hc : rlN X l (x + 1) = rl1 X x (l.getD x cn0) (rlN X l x) := rfl
    have hok := hl _ (getD_mem l x cn0 (by omega))
    have ih := rlN_in hl x (by omega)
    have hlen := rlN_len X l x
    rw [hc]
    unfold rl1
    by_cases e : z = x
    · subst e
      split
      · show (List.set _ _ _).getD _ 0 ≤ _
        rw [getD_set, if_pos ⟨rfl, by rw [hlen.1]; omega⟩]; exact Int.le_refl _
      · omega
    · have h1 := ih z (by omega)
      split
      · rename_i h
        simp only [getD_set]
        split
        · rename_i h2
          rw [h2.1] at h1
          omega
        · exact h1
      · exact h1
theorem rlN_at {X : List Int} {l : List Cn} : ∀ x, x ≤ l.length → ∀ b, (rlN X l x).1.getD b 0 = X.getD b 0 ∨ ∃ c ∈ l, c.b.toNat = b ∧ (rlN X l x).1.getD b 0 = X.getD c.a.toNat 0 + c.w
  | 0, _, b => .inl rfl
  | x + 1, hx, b => by
    have hc : rlN X l (x + 1) = rl1 X x (l.getD x cn0) (rlN X l x) := rfl
    have ih := rlN_at (X := X) (l := l) x (by omega) b
    rw [hc]
    unfold rl1
    split
    · simp only [getD_set]
      split
      · rename_i h
        exact .inr ⟨_, getD_mem l x cn0 (by omega), h.1.symm, rfl⟩
      · exact ih
    · exact ih
theorem mem_get {α : Type} {l : List α} {c d : α} (h : c ∈ l) : ∃ z, z < l.length ∧ l.getD z d = c := by
  obtain ⟨z, hz, rfl⟩ := List.mem_iff_getElem.1 h
  exact ⟨z, hz, by rw [List.getD_eq_getElem?_getD, List.getElem?_eq_getElem hz]; rfl⟩
/-- The values of a round that lessens nothing are a solution. -/
theorem lst_pot {l : List Cn} {n r : Nat} (hl : allOK n l) (h : chgL (byN l n r) = false) : pot l (fun v => (lst l n r).getD v 0) := by
  intro c hc
  obtain ⟨z, hz, rfl⟩ := mem_get (d := cn0) hc
  have hX := lst_len l n r
  have := (rlN_no (X := lst l n r) (by rw [hX]; exact hl) l.length (Nat.le_refl _) h).2 z hz
  simp only; omega
theorem lst_succ_le {l : List Cn} {n r : Nat} (hl : allOK n l) (b : Nat) : (lst l n (r + 1)).getD b 0 ≤ (lst l n r).getD b 0 :=
  (rlN_le (by rw [lst_len]; exact hl) l.length (Nat.le_refl _) b).1
/-- A round's values are not above the weights of paths. -/
theorem lst_sp {l : List Cn} {n : Nat} (hl : allOK n l) {k a b : Nat} {w : Int} {vs : List Nat} (h : SP l k a b w vs) : ∀ r, vs.length ≤ r + 1 → (lst l n r).getD b 0 ≤ w := by
  induction h with
  | nil => intro r _; exact (lst_bnd hl r a).2
  | snoc h hb hc he hn ih =>
    rename_i b w vs c
    intro r hr
    have hvl : 1 ≤ vs.length := by
      have := (sp_head h).1
      rcases vs with _ | _
      · cases this
      · simp
    simp only [List.length_cons] at hr
    obtain ⟨r, rfl⟩ : ∃ q, r = q + 1 := ⟨r - 1, by omega⟩
    have h1 := ih r (by omega)
    obtain ⟨z, hz, rfl⟩ := mem_get (d := cn0) hc
    have h2 := rlN_in (X := lst l n r) (by rw [lst_len]; exact hl) l.length (Nat.le_refl _) z hz
    rw [← he] at h1
    show (rlN (lst l n r) l l.length).1.getD _ 0 ≤ _
    omega
/-- They are the weights of walks. -/
theorem lst_wk {l : List Cn} {n : Nat} (hl : allOK n l) : ∀ (r b : Nat), b < n → ∃ a, a < n ∧ Wk l n a b ((lst l n r).getD b 0)
  | 0, b, hb => ⟨b, hb, by
      rw [lst, List.getD_eq_getElem?_getD, List.getElem?_replicate, if_pos hb]; exact .nil b⟩
  | r + 1, b, hb => by
    rcases rlN_at (X := lst l n r) (l := l) l.length (Nat.le_refl _) b with h | ⟨c, hc, rfl, h⟩
    · obtain ⟨a, ha, h1⟩ := lst_wk hl r b hb
      exact ⟨a, ha, by rw [lst, h]; exact h1⟩
    · obtain ⟨a, ha, h1⟩ := lst_wk hl r c.a.toNat (by have := (hl c hc).1; omega)
      exact ⟨a, ha, by rw [lst, h]; exact .comp h1 (by have := (hl c hc).1; omega) (.edge hc)⟩
/-- Where there is a solution, the last round lessens nothing. -/
theorem cyc_of_pot {l : List Cn} {n : Nat} (hl : allOK n l) {y : Nat → Int} (hy : pot l y) {r : Nat} (hr : n ≤ r + 1) : chgL (byN l n r) = false := by
  rw [Bool.eq_false_iff]
  intro h
  unfold chgL at h
  rw [List.any_eq_true] at h
  obtain ⟨v, hv, h0⟩ := h
  obtain ⟨b, hb, rfl⟩ := mem_get (d := 0) hv
  rw [byN_len] at hb
  have h0 : 0 ≤ (byN l n r).getD b 0 := by simpa using h0
  have h1 := (rlN_le (X := lst l n r) (by rw [lst_len]; exact hl) l.length (Nat.le_refl _) b).2 (by rw [lst_len]; exact hb) h0
  obtain ⟨a, ha, h2⟩ := lst_wk hl (r + 1) b hb
  obtain ⟨w', vs, h3, h4, h5⟩ := wk_path hl hy ha h2
  have h6 := lst_sp hl h3 r (by omega)
  have h7 : (lst l n (r + 1)).getD b 0 < (lst l n r).getD b 0 := h1
  omega
/-- There is a cycle just if there is no solution. -/
theorem cyc_iff {l : List Cn} {n : Nat} (hn : 1 ≤ n) (hl : allOK n l) : cyc l n = false ↔ ∃ y, pot l y :=
  ⟨fun h => ⟨_, lst_pot hl h⟩, fun ⟨_, hy⟩ => cyc_of_pot hl hy (by omega)⟩
theorem slv_iff {l : List Cn} {n : Nat} (hn : 1 ≤ n) (hl : allOK n l) : (slvI l n).isSome = true ↔ ∃ y, pot l y := by
  constructor
  · intro h
    rw [Option.isSome_iff_exists] at h
    obtain ⟨r, h⟩ := h
    unfold slvI at h
    rw [List.find?_range_eq_some] at h
    exact ⟨_, lst_pot hl (r := r) (by simpa using h.1)⟩
  · rintro ⟨y, hy⟩
    have h := cyc_of_pot hl hy (r := n - 1) (by omega)
    rw [Option.isSome_iff_ne_none]
    intro h2
    unfold slvI at h2
    rw [List.find?_range_eq_none] at h2
    have := h2 (n - 1) (by omega)
    rw [h] at this
    cases this
theorem bndE_eq (n : Int) (l : List Cn) : bndE n l = rsvE n l := by
  unfold bndE rsvE
  by_cases h : cchk n l = 0
  · rw [if_neg (not_not_intro h), if_neg (not_not_intro h)]
    obtain ⟨m, rfl, hm, _, hok⟩ := cchk_zero h
    rw [Int.toNat_natCast]
    have h1 := cyc_iff hm.1 hok
    have h2 := slv_iff hm.1 hok
    cases hc : cyc l m
    · rw [hc] at h1
      rw [if_neg Bool.false_ne_true, if_pos (h2.2 (h1.1 rfl))]
    · rw [if_pos rfl, if_neg]
      intro h3
      have := h1.2 (h2.1 h3)
      rw [hc] at this; cases this
  · rw [if_pos h, if_pos h]
theorem bndA_eq (n : Int) (l : List Cn) : bndA n l = rbdA n l := by unfold bndA rbdA; rw [bndE_eq]
end Go.Vx.L53
set_option maxRecDepth 100000
namespace Go.Vx.L53
open Go Go.Proofs
theorem wk_split {l : List Cn} {y : Nat → Int} (hy : pot l y) {k i j : Nat} {w : Int} (h : Wk l (k + 1) i j w) :
    (∃ w', Wk l k i j w' ∧ w' ≤ w) ∨ ∃ w1 w2, Wk l k i k w1 ∧ Wk l k k j w2 ∧ w1 + w2 ≤ w := by
  induction h with
  | nil i => exact .inl ⟨0, .nil i, Int.le_refl _⟩
  | edge h => exact .inl ⟨_, .edge h, Int.le_refl _⟩
  | comp _ hm _ ih1 ih2 =>
    rename_i i m j w1 w2 _ _
    by_cases hmk : m = k
    · subst hmk
      right
      have a : ∃ u, Wk l m i m u ∧ u ≤ w1 := by
        rcases ih1 with h | ⟨u, v, h1, h2, h3⟩
        · exact h
        · have := wk_pot hy h2; exact ⟨u, h1, by omega⟩
      have b : ∃ u, Wk l m m j u ∧ u ≤ w2 := by
        rcases ih2 with h | ⟨u, v, h1, h2, h3⟩
        · exact h
        · have := wk_pot hy h1; exact ⟨v, h2, by omega⟩
      obtain ⟨u, h1, h2⟩ := a
      obtain ⟨v, h3, h4⟩ := b
      exact ⟨u, v, h1, h3, by omega⟩
    · have hm : m < k := by omega
      rcases ih1 with ⟨u, h1, h2⟩ | ⟨u, v, h1, h2, h3⟩
      · rcases ih2 with ⟨u', h1', h2'⟩ | ⟨u', v', h1', h2', h3'⟩
        · exact .inl ⟨_, .comp h1 hm h1', by omega⟩
        · exact .inr ⟨_, _, .comp h1 hm h1', h2', by omega⟩
      · rcases ih2 with ⟨u', h1', h2'⟩ | ⟨u', v', h1', h2', h3'⟩
        · exact .inr ⟨_, _, h1, .comp h2 hm h1', by omega⟩
        · have h4 := wk_pot hy (Wk.comp h2 hm h1')
          exact .inr ⟨_, _, h1, h2', by omega⟩
def Cmp (l : List Cn) (k : Nat) (M : List (List Int)) (i j : Nat) : Prop := ∀ w, Wk l k i j w → mg M i j ≠ NN ∧ mg M i j ≤ w
def Snd (l : List Cn) (k : Nat) (M : List (List Int)) (i j : Nat) : Prop := mg M i j ≠ NN → Wk l k i j (mg M i j)
/-- In the midst of a stage. -/
structure Par (n : Nat) (l : List Cn) (k : Nat) (M : List (List Int)) : Prop where
  sq : Sq n M
  cmp : ∀ i j, i < n → j < n → Cmp l k M i j
  snd : ∀ i j, i < n → j < n → Snd l (k + 1) M i j
/-- A system of n variables that has a solution. -/
structure Sys (n : Nat) (l : List Cn) (y : Nat → Int) : Prop where
  n1 : 1 ≤ n
  n2 : n ≤ 160
  ok : allOK n l
  pot : pot l y
  yb : ∀ v, -(9007199254740992 * ((n : Int) - 1)) ≤ y v ∧ y v ≤ 0
theorem sys_of {n : Nat} {l : List Cn} (hn : 1 ≤ n ∧ n ≤ 160) (hl : allOK n l) (h : cyc l n = false) : Sys n l fun v => (lst l n (n - 1)).getD v 0 :=
  ⟨hn.1, hn.2, hl, lst_pot hl h, fun v => by
    have := lst_bnd hl (n - 1) v
    rw [show (((n - 1 : Nat) : Int)) = (n : Int) - 1 by omega] at this
    exact this⟩
variable {n : Nat} {l : List Cn} {y : Nat → Int}
/-- The weight of some path is not great. -/
theorem Sys.small (h : Sys n l y) {k i j : Nat} (hi : i < n) {w : Int} (hw : Wk l k i j w) : ∃ w', Wk l k i j w' ∧ w' ≤ w ∧ w' ≤ 9007199254740992 * ((n : Int) - 1) := by
  obtain ⟨w', vs, h1, h2, h3⟩ := wk_path h.ok h.pot hi hw
  have := sp_bd h.ok h1
  exact ⟨w', sp_wk h1, h2, by omega⟩
theorem Sys.low (h : Sys n l y) {k i j : Nat} {w : Int} (hw : Wk l k i j w) : -(9007199254740992 * ((n : Int) - 1)) ≤ w := by
  have := wk_pot h.pot hw
  have h1 := h.yb i
  have h2 := h.yb j
  omega
theorem Par.rng (hs : Sys n l y) {k : Nat} {M : List (List Int)} (h : Par n l k M) {i j : Nat} (hi : i < n) (hj : j < n) (hm : mg M i j ≠ NN) (hk : i = k ∨ j = k) :
    -(9007199254740992 * ((n : Int) - 1)) ≤ mg M i j ∧ mg M i j ≤ 9007199254740992 * ((n : Int) - 1) := by
  have hw := h.snd i j hi hj hm
  refine ⟨hs.low hw, ?_⟩
  have : ∃ w, Wk l k i j w := by
    rcases wk_split hs.pot hw with ⟨w, h1, _⟩ | ⟨w1, w2, h1, h2, _⟩
    · exact ⟨w, h1⟩
    · rcases hk with rfl | rfl
      · exact ⟨_, h2⟩
      · exact ⟨_, h1⟩
  obtain ⟨w, h1⟩ := this
  obtain ⟨w', h2, _, h3⟩ := hs.small hi h1
  have := (h.cmp i j hi hj w' h2).2
  omega
theorem fS_step (hs : Sys n l y) {k i j : Nat} {M : List (List Int)} (h : Par n l k M) (hk : k < n) (hi : i < n) (hj : j < n) :
    Par n l k (fS k i M j) ∧ Cmp l (k + 1) (fS k i M j) i j ∧ ∀ a b, Cmp l (k + 1) M a b → Cmp l (k + 1) (fS k i M j) a b := by
  have hNN : NN = 4611686018427387904 := rfl
  have hn2 := hs.n2
  have hn1 := hs.n1
  have hsq := fS_sq (k := k) h.sq hi hj
  -- the sum
  have hsum : mg M i k ≠ NN → mg M k j ≠ NN → IntKind.i64.wrap (mg M i k + mg M k j) = mg M i k + mg M k j ∧ mg M i k + mg M k j < NN ∧ Wk l (k + 1) i j (mg M i k + mg M k j) := fun h1 h2 => by
    have b1 := h.rng hs hi hk h1 (.inr rfl)
    have b2 := h.rng hs hk hj h2 (.inl rfl)
    exact ⟨cwrap (by omega) (by omega), by omega, .comp (h.snd i k hi hk h1) (by omega) (h.snd k j hk hj h2)⟩
  have hfull : ∀ w, Wk l (k + 1) i j w → (mg M i j ≠ NN ∧ mg M i j ≤ w) ∨ (mg M i k ≠ NN ∧ mg M k j ≠ NN ∧ mg M i k + mg M k j ≤ w) := fun w hw => by
    rcases wk_split hs.pot hw with ⟨w', h1, h2⟩ | ⟨w1, w2, h1, h2, h3⟩
    · have := h.cmp i j hi hj w' h1
      exact .inl ⟨this.1, by omega⟩
    · have a := h.cmp i k hi hk w1 h1
      have b := h.cmp k j hk hj w2 h2
      exact .inr ⟨a.1, b.1, by omega⟩
  by_cases hc : mg M i k ≠ NN ∧ mg M k j ≠ NN ∧ IntKind.i64.wrap (mg M i k + mg M k j) < mg M i j
  · obtain ⟨h1, h2, h3⟩ := hc
    obtain ⟨s1, s2, s3⟩ := hsum h1 h2
    have hE : fS k i M j = ms M i j (mg M i k + mg M k j) := by
      unfold fS; rw [if_pos ⟨h1, h2, h3⟩, s1]
    rw [s1] at h3
    rw [hE] at hsq ⊢
    have hg : ∀ a b, mg (ms M i j (mg M i k + mg M k j)) a b = if a = i ∧ b = j then mg M i k + mg M k j else mg M a b :=
      fun a b => mg_ms (by rw [h.sq.len]; exact hi) (by rw [h.sq.row i hi]; exact hj) a b
    have hdec : ∀ a b (q : Nat), Cmp l q M a b → Cmp l q (ms M i j (mg M i k + mg M k j)) a b := fun a b q hq w hw => by
      obtain ⟨c1, c2⟩ := hq w hw
      rw [hg]
      split
      · rename_i e
        rw [e.1, e.2] at c1 c2
        exact ⟨by omega, by omega⟩
      · exact ⟨c1, c2⟩
    refine ⟨⟨hsq, fun a b ha hb => hdec a b k (h.cmp a b ha hb), fun a b ha hb hne => ?_⟩, fun w hw => ?_, fun a b => hdec a b (k + 1)⟩
    · rw [hg] at hne ⊢
      split
      · rename_i e; rw [e.1, e.2]; exact s3
      · rename_i e; rw [if_neg e] at hne; exact h.snd a b ha hb hne
    · rw [hg, if_pos ⟨rfl, rfl⟩]
      rcases hfull w hw with ⟨_, q⟩ | ⟨_, _, q⟩
      · exact ⟨by omega, by omega⟩
      · exact ⟨by omega, by omega⟩
  · have hE : fS k i M j = M := by unfold fS; rw [if_neg hc]
    rw [hE]
    refine ⟨h, fun w hw => ?_, fun a b hq => hq⟩
    rcases hfull w hw with q | ⟨q1, q2, q3⟩
    · exact q
    · obtain ⟨s1, s2, _⟩ := hsum q1 q2
      have hle : mg M i j ≤ mg M i k + mg M k j := by
        have : ¬ IntKind.i64.wrap (mg M i k + mg M k j) < mg M i j := fun h3 => hc ⟨q1, q2, h3⟩
        rw [s1] at this
        omega
      exact ⟨by omega, by omega⟩
theorem fJ_step (hs : Sys n l y) {k i : Nat} (hk : k < n) (hi : i < n) : ∀ (j : Nat), j ≤ n → ∀ {M : List (List Int)}, Par n l k M →
    Par n l k (fJ k i M j) ∧ (∀ b, b < j → Cmp l (k + 1) (fJ k i M j) i b) ∧ ∀ a b, Cmp l (k + 1) M a b → Cmp l (k + 1) (fJ k i M j) a b
  | 0, _, M, h => ⟨h, fun b hb => by omega, fun _ _ h => h⟩
  | j + 1, hj, M, h => by
    obtain ⟨h1, h2, h3⟩ := fJ_step hs hk hi j (by omega) h
    obtain ⟨g1, g2, g3⟩ := fS_step hs h1 hk hi (show j < n by omega)
    refine ⟨g1, fun b hb => ?_, fun a b q => g3 a b (h3 a b q)⟩
    by_cases e : b = j
    · rw [e]; exact g2
    · exact g3 i b (h2 b (by omega))
theorem fI_step (hs : Sys n l y) {k : Nat} (hk : k < n) : ∀ (i : Nat), i ≤ n → ∀ {M : List (List Int)}, Par n l k M →
    Par n l k (fI n k M i) ∧ ∀ a b, a < i → b < n → Cmp l (k + 1) (fI n k M i) a b
  | 0, _, M, h => ⟨h, fun a b ha => by omega⟩
  | i + 1, hi, M, h => by
    obtain ⟨h1, h2⟩ := fI_step hs hk i (by omega) h
    obtain ⟨g1, g2, g3⟩ := fJ_step hs hk (show i < n by omega) n (Nat.le_refl _) h1
    refine ⟨g1, fun a b ha hb => ?_⟩
    by_cases e : a = i
    · rw [e]; exact g2 b hb
    · exact g3 a b (h2 a b (by omega) hb)
/-- Behind k stages. -/
structure Inv (n : Nat) (l : List Cn) (k : Nat) (M : List (List Int)) : Prop where
  sq : Sq n M
  cmp : ∀ i j, i < n → j < n → Cmp l k M i j
  snd : ∀ i j, i < n → j < n → Snd l k M i j
theorem fK_step (hs : Sys n l y) {M : List (List Int)} (h : Inv n l 0 M) : ∀ k, k ≤ n → Inv n l k (fK n M k)
  | 0, _ => h
  | k + 1, hk => by
    have ih := fK_step hs h k (by omega)
    have hp : Par n l k (fK n M k) := ⟨ih.sq, ih.cmp, fun i j hi hj hne => wk_mono (by omega) (ih.snd i j hi hj hne)⟩
    obtain ⟨h1, h2⟩ := fI_step hs (show k < n by omega) n (Nat.le_refl _) hp
    exact ⟨h1.sq, fun i j hi hj => h2 i j hi hj, h1.snd⟩
theorem wk_zero {i j : Nat} {w : Int} (h : Wk l 0 i j w) : (i = j ∧ w = 0) ∨ ∃ c ∈ l, c.a.toNat = i ∧ c.b.toNat = j ∧ c.w = w := by
  cases h with
  | nil i => exact .inl ⟨rfl, rfl⟩
  | edge h => exact .inr ⟨_, h, rfl, rfl, rfl⟩
  | comp _ hm _ => omega
theorem mg_ini {i j : Nat} (hi : i < n) (hj : j < n) : mg (iniR n n) i j = if j = i then 0 else NN := by
  have hg : (iniR n n).getD i [] = idR n i := by
    unfold iniR
    rw [Nat.sub_self, List.replicate_zero, List.append_nil, List.getD_eq_getElem?_getD, List.getElem?_map, List.getElem?_range hi]; rfl
  unfold mg idR at *
  rw [hg, getD_set]
  split
  · rename_i h; rw [if_pos h.1]
  · rename_i h
    rw [if_neg (fun e => h ⟨e, by rw [List.length_replicate]; exact hi⟩), List.getD_eq_getElem?_getD, List.getElem?_replicate, if_pos hj]; rfl
theorem mL_step (hs : Sys n l y) : ∀ x, x ≤ l.length → Sq n (mL n l x) ∧ (∀ i j, i < n → j < n → Snd l 0 (mL n l x) i j) ∧ (∀ i, i < n → mg (mL n l x) i i ≤ 0) ∧ ∀ z, z < x → mg (mL n l x) (l.getD z cn0).a.toNat (l.getD z cn0).b.toNat ≤ (l.getD z cn0).w
  | 0, _ => by
    refine ⟨iniR_sq n, fun i j hi hj hne => ?_, fun i hi => ?_, fun z hz => by omega⟩
    · rw [show mL n l 0 = iniR n n from rfl, mg_ini hi hj] at hne ⊢
      split
      · rename_i e; rw [e]; exact .nil i
      · rename_i e; rw [if_neg e] at hne; exact absurd rfl hne
    · rw [show mL n l 0 = iniR n n from rfl, mg_ini hi hi, if_pos rfl]; exact Int.le_refl _
  | x + 1, hx => by
    obtain ⟨h1, h2, h3, h4⟩ := mL_step hs x (by omega)
    have hcl := getD_mem l x cn0 (by omega)
    have hok := hs.ok _ hcl
    have hE : mL n l (x + 1) = ms (mL n l x) (l.getD x cn0).a.toNat (l.getD x cn0).b.toNat (lsr (mg (mL n l x) (l.getD x cn0).a.toNat (l.getD x cn0).b.toNat) (l.getD x cn0).w) := rfl
    have hg : ∀ a b, mg (mL n l (x + 1)) a b = if a = (l.getD x cn0).a.toNat ∧ b = (l.getD x cn0).b.toNat then lsr (mg (mL n l x) (l.getD x cn0).a.toNat (l.getD x cn0).b.toNat) (l.getD x cn0).w else mg (mL n l x) a b := fun a b => by
      rw [hE]; exact mg_ms (by rw [h1.len]; omega) (by rw [h1.row _ (by omega)]; omega) a b
    have hle : ∀ a b, mg (mL n l (x + 1)) a b ≤ mg (mL n l x) a b := fun a b => by
      rw [hg]; split
      · rename_i e; rw [e.1, e.2]; exact lsr_le _ _
      · exact Int.le_refl _
    refine ⟨mL_sq hs.ok (x + 1) hx, fun i j hi hj hne => ?_, fun i hi => Int.le_trans (hle i i) (h3 i hi), fun z hz => ?_⟩
    · rw [hg] at hne ⊢
      split
      · rename_i e
        rw [if_pos e] at hne
        rw [e.1, e.2]
        unfold lsr at hne ⊢
        split
        · exact .edge hcl
        · rename_i e2
          rw [if_neg e2] at hne
          exact h2 _ _ (by omega) (by omega) hne
      · rename_i e; rw [if_neg e] at hne; exact h2 i j hi hj hne
    · by_cases e : z = x
      · rw [e, hg, if_pos ⟨rfl, rfl⟩]; unfold lsr; split <;> omega
      · exact Int.le_trans (hle _ _) (h4 z (by omega))
theorem mL_inv (hs : Sys n l y) : Inv n l 0 (mL n l l.length) := by
  obtain ⟨h1, h2, h3, h4⟩ := mL_step hs l.length (Nat.le_refl _)
  refine ⟨h1, fun i j hi hj w hw => ?_, h2⟩
  have hNN : NN = 4611686018427387904 := rfl
  rcases wk_zero hw with ⟨rfl, rfl⟩ | ⟨c, hc, rfl, rfl, rfl⟩
  · have := h3 i hi
    exact ⟨by omega, this⟩
  · obtain ⟨z, hz, rfl⟩ := mem_get (d := cn0) hc
    have := h4 z hz
    have hok := (hs.ok _ hc).2.2
    exact ⟨by omega, this⟩
/-- The bounds are the least weights of walks. -/
theorem fw_inv (hs : Sys n l y) : Inv n l n (fw n l) := fK_step hs (mL_inv hs) n (Nat.le_refl _)
theorem fw_rng (hs : Sys n l y) {i j : Nat} (hi : i < n) (hj : j < n) (hm : mg (fw n l) i j ≠ NN) : -(9007199254740992 * ((n : Int) - 1)) ≤ mg (fw n l) i j ∧ mg (fw n l) i j ≤ 9007199254740992 * ((n : Int) - 1) := by
  have hI := fw_inv hs
  have hw := hI.snd i j hi hj hm
  refine ⟨hs.low hw, ?_⟩
  obtain ⟨w', h2, _, h3⟩ := hs.small hi hw
  have := (hI.cmp i j hi hj w' h2).2
  omega
end Go.Vx.L53
