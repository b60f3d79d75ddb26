/- Lemmas of a small executor for the model, and contracts of functions, used for the law that this claim proves. No condition. -/
import Derived.Test.YtodbfpjjahpahaaGreatDoorDW3
import Derived.Test.YtodbfpjjahpahaaGreatDoorDGBA
set_option linter.unusedSimpArgs false
set_option linter.unusedVariables false
set_option maxRecDepth 100000
namespace Go.Vx.L58
open Go Go.Proofs
theorem ckL_all (n : Int) : ∀ (l : List Ed) (seen : List (List Int)), ckL n l seen = 0 → ∀ e ∈ l, (endB n e.a e.pa = true ∧ endB n e.b e.pb = true) ∧ e.a ≠ e.b
 | [], _, _, e, he => by cases he
 | x :: r, seen, h, e, he => by
  unfold ckL at h
  split at h
  ·cases h
  ·rename_i h1
   split at h
   ·cases h
   ·rename_i h2
    split at h
    ·cases h
    ·rcases List.mem_cons.1 he with rfl | he
     ·exact ⟨by simpa using h1, h2⟩
     ·exact ckL_all n r _ h e he
def edOK (n : Nat) (e : Ed) : Prop := (0 ≤ e.a ∧ e.a < n) ∧ (0 ≤ e.b ∧ e.b < n) ∧ e.a ≠ e.b
theorem ckC_parts {n : Int} {l : List Ed} (h : ckC n l = 0) : ∃ m : Nat, n = m ∧ (1 ≤ m ∧ m ≤ 24) ∧ l.length ≤ 64 ∧ ∀ e ∈ l, edOK m e := by
 unfold ckC at h
 split at h
 ·cases h
 ·split at h
  ·cases h
  ·refine ⟨n.toNat, by omega, by omega, by omega, fun e he => ?_⟩
   obtain ⟨⟨h1, h2⟩, h3⟩ := ckL_all n l _ h e he
   simp only [endB, decide_eq_true_eq] at h1 h2
   exact ⟨by omega, by omega, h3⟩
theorem srt_mem (l : List Int) (x : Int) : x ∈ srt l ↔ x ∈ l := List.mem_mergeSort
def AdjE (e : Ed) (i : Nat) (y : Int) : Prop := (e.a = i ∧ y = e.b) ∨ (e.b = i ∧ y = e.a)
theorem stN_mem {n : Nat} {rs : List (List Int)} (hr : rs.length = n) {e : Ed} (he : edOK n e) {i : Nat} (hi : i < n) (y : Int) : y ∈ (stN rs e).getD i [] ↔ y ∈ rs.getD i [] ∨ AdjE e i y := by
 obtain ⟨h1, h2, h3⟩ := he
 unfold stN AdjE
 rw [getD_set, getD_set, getD_set]
 have ha : ((e.a.toNat : Nat) : Int) = e.a := by omega
 have hb : ((e.b.toNat : Nat) : Int) = e.b := by omega
 by_cases hib : i = e.b.toNat
 ·rw [if_pos ⟨hib, by simp; omega⟩, if_neg (by omega)]
  subst hib
  simp only [List.mem_append, List.mem_singleton]
  constructor
  ·rintro (h | rfl)
   ·exact .inl h
   ·exact .inr (.inr ⟨by omega, rfl⟩)
  ·rintro (h | ⟨h, _⟩ | ⟨_, rfl⟩)
   ·exact .inl h
   ·omega
   ·exact .inr rfl
 ·rw [if_neg (fun h => hib h.1)]
  by_cases hia : i = e.a.toNat
  ·rw [if_pos ⟨hia, by omega⟩]
   subst hia
   simp only [List.mem_append, List.mem_singleton]
   constructor
   ·rintro (h | rfl)
    ·exact .inl h
    ·exact .inr (.inl ⟨by omega, rfl⟩)
   ·rintro (h | ⟨_, rfl⟩ | ⟨h, _⟩)
    ·exact .inl h
    ·exact .inr rfl
    ·omega
  ·rw [if_neg (fun h => hia h.1)]
   constructor
   ·exact .inl
   ·rintro (h | ⟨h, _⟩ | ⟨h, _⟩)
    ·exact h
    ·omega
    ·omega
theorem nrU_mem {n : Nat} {l : List Ed} (hl : ∀ e ∈ l, edOK n e) {i : Nat} (hi : i < n) (y : Int) : y ∈ (nrU n l).getD i [] ↔ ∃ e ∈ l, AdjE e i y := by
 have gen : ∀ (l : List Ed) (rs : List (List Int)), rs.length = n → (∀ e ∈ l, edOK n e) → (y ∈ (l.foldl stN rs).getD i [] ↔ y ∈ rs.getD i [] ∨ ∃ e ∈ l, AdjE e i y) := by
  intro l
  induction l with
  | nil => intro rs _ _; simp
  | cons e r ih =>
   intro rs hr he
   rw [List.foldl_cons, ih _ (by rw [stN_len, hr]) fun x hx => he x (by simp [hx]), stN_mem hr (he e (by simp)) hi]
   constructor
   ·rintro ((h | h) | ⟨x, hx, h⟩)
    ·exact .inl h
    ·exact .inr ⟨e, by simp, h⟩
    ·exact .inr ⟨x, by simp [hx], h⟩
   ·rintro (h | ⟨x, hx, h⟩)
    ·exact .inl (.inl h)
    ·rcases List.mem_cons.1 hx with rfl | hx
     ·exact .inl (.inr h)
     ·exact .inr ⟨x, hx, h⟩
 unfold nrU
 rw [gen l _ (by simp) hl]
 have : (List.replicate n ([] : List Int)).getD i [] = [] := by
  rw [List.getD_eq_getElem?_getD, List.getElem?_replicate]
  split <;> rfl
 rw [this]
 simp
theorem nrF_len (n : Nat) (l : List Ed) : (nrF n l).length = n := by rw [nrF, List.length_map, nrU_len]
theorem nrF_get (n : Nat) (l : List Ed) (i : Nat) : (nrF n l).getD i [] = srt ((nrU n l).getD i []) := by
 unfold nrF
 by_cases h : i < n
 ·have := nrU_len n l
  rw [List.getD_eq_getElem?_getD, List.getD_eq_getElem?_getD, List.getElem?_map, List.getElem?_eq_getElem (by omega)]; rfl
 ·have := nrU_len n l
  rw [List.getD_eq_getElem?_getD, List.getD_eq_getElem?_getD, List.getElem?_map, List.getElem?_eq_none (by omega)]
  simp [srt]
theorem nrF_mem {n : Nat} {l : List Ed} (hl : ∀ e ∈ l, edOK n e) {i : Nat} (hi : i < n) (y : Int) : y ∈ (nrF n l).getD i [] ↔ ∃ e ∈ l, AdjE e i y := by
 rw [nrF_get, srt_mem, nrU_mem hl hi]
theorem nrF_in {n : Nat} {l : List Ed} (hl : ∀ e ∈ l, edOK n e) : rowsIn n (nrF n l) := fun i x hx => by
 by_cases hi : i < n
 ·obtain ⟨e, he, h⟩ := (nrF_mem hl hi x).1 hx
  obtain ⟨h1, h2, _⟩ := hl e he
  rcases h with ⟨_, rfl⟩ | ⟨_, rfl⟩ <;> omega
 ·have := nrF_len n l
  rw [List.getD_eq_getElem?_getD, List.getElem?_eq_none (by omega)] at hx
  cases hx
def dsF (n : Nat) (l : List Ed) (a : Nat) : List Int := bfs (nrF n l) 24 0 [(a : Int)] ((List.replicate n (-1)).set a 0)
def dsA (n : Int) (l : List Ed) (a : Int) : List Int := if hasB n l a = true then dsF n.toNat l a.toNat else []
theorem ngs_rep (n : Nat) : ngs (List.replicate n (-1)) = n := by
 induction n with
 | zero => rfl
 | succ n ih =>
  unfold ngs at *
  rw [List.replicate_succ, List.countP_cons, ih]; rfl
end Go.Vx.L58
