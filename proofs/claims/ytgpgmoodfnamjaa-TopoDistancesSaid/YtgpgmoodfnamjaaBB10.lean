/- Lemmas of a small executor for the model, and contracts of functions, used for the law that this claim proves. No condition. -/
import Derived.Test.YtgpgmoodfnamjaaBB6
set_option linter.unusedSimpArgs false
set_option linter.unusedVariables false
set_option maxRecDepth 100000
namespace Go.Vx.L18
open Go Go.Proofs
def adjB (l : List Ed) (v i : Nat) : Bool := l.any fun e => decide ((e.a = v ∧ e.b = i) ∨ (e.b = v ∧ e.a = i))
theorem adjB_iff (l : List Ed) (v i : Nat) : adjB l v i = true ↔ Adj l v ((i : Nat) : Int) := by
  unfold adjB Adj AdjE
  rw [List.any_eq_true]
  constructor
  · rintro ⟨e, he, h⟩
    refine ⟨e, he, ?_⟩
    rcases of_decide_eq_true h with ⟨h1, h2⟩ | ⟨h1, h2⟩
    · exact .inl ⟨h1, h2.symm⟩
    · exact .inr ⟨h1, h2.symm⟩
  · rintro ⟨e, he, h⟩
    refine ⟨e, he, decide_eq_true ?_⟩
    rcases h with ⟨h1, h2⟩ | ⟨h1, h2⟩
    · exact .inl ⟨h1, h2.symm⟩
    · exact .inr ⟨h1, h2.symm⟩
/-- The least neighbor that is nearer. -/
def nxC (n : Nat) (l : List Ed) (D : List Int) (v : Nat) : Nat := ((List.range n).find? fun i => decide (D.getD i 0 = D.getD v 0 - 1) && adjB l v i).getD 0
theorem find_range (n : Nat) (p : Nat → Bool) (i : Nat) (hi : i < n) (hp : p i = true) (hmin : ∀ j < i, p j = false) : (List.range n).find? p = some i := by
  rw [List.find?_range_eq_some]
  exact ⟨hp, List.mem_range.2 hi, fun j hj => by simp [hmin j hj]⟩
theorem nxC_eq {n : Nat} {l : List Ed} {D : List Int} {v i : Nat} (hi : i < n) (hA : Adj l v ((i : Nat) : Int)) (hD : D.getD i 0 = D.getD v 0 - 1) (hmin : ∀ j < i, Adj l v ((j : Nat) : Int) → D.getD j 0 ≠ D.getD v 0 - 1) : nxC n l D v = i := by
  unfold nxC
  rw [find_range n _ i hi (by simp only [Bool.and_eq_true]; exact ⟨decide_eq_true hD, (adjB_iff l v i).2 hA⟩) fun j hj => by
    cases hb : adjB l v j with
    | false => simp
    | true => simp only [Bool.and_true]; exact decide_eq_false (hmin j hj ((adjB_iff l v j).1 hb))]
  rfl
theorem least_nat (p : Nat → Prop) : ∀ i, p i → ∃ j, j ≤ i ∧ p j ∧ ∀ k < j, ¬ p k := fun i hi => by
  induction i using Nat.strongRecOn with
  | ind i ih =>
    by_cases h : ∃ k, k < i ∧ p k
    · obtain ⟨k, hk, hpk⟩ := h
      obtain ⟨j, h1, h2, h3⟩ := ih k hk hpk
      exact ⟨j, by omega, h2, h3⟩
    · exact ⟨i, Nat.le_refl _, hi, fun k hk hpk => h ⟨k, hk, hpk⟩⟩
theorem nxC_spec {n : Nat} {l : List Ed} {b : Nat} {D : List Int} (h : IsD n l b D) {v : Nat} (hv : v < n) (h1 : 1 ≤ D.getD v 0) : nxC n l D v < n ∧ Adj l v ((nxC n l D v : Nat) : Int) ∧ D.getD (nxC n l D v) 0 = D.getD v 0 - 1 ∧ ∀ j < nxC n l D v, Adj l v ((j : Nat) : Int) → D.getD j 0 ≠ D.getD v 0 - 1 := by
  rcases h.back v hv (by omega) with rfl | ⟨y, hy, hA, h2, h3⟩
  · have := h.zero; omega
  · obtain ⟨j, hj, ⟨hj1, hj2⟩, hj3⟩ := least_nat (fun i => Adj l v ((i : Nat) : Int) ∧ D.getD i 0 = D.getD v 0 - 1) y ⟨hA, by omega⟩
    have hmin : ∀ k < j, Adj l v ((k : Nat) : Int) → D.getD k 0 ≠ D.getD v 0 - 1 := fun k hk hA hD => hj3 k hk ⟨hA, hD⟩
    have e := nxC_eq (n := n) (by omega) hj1 hj2 hmin
    rw [e]
    exact ⟨by omega, hj1, hj2, hmin⟩
def pN (nx : Nat → Nat) (a : Nat) : Nat → Nat
  | 0 => a
  | k + 1 => nx (pN nx a k)
def pL (nx : Nat → Nat) (a k : Nat) : List Int := (List.range (k + 1)).map fun i => ((pN nx a i : Nat) : Int)
theorem pL_len (nx : Nat → Nat) (a k : Nat) : (pL nx a k).length = k + 1 := by simp [pL]
theorem pL_succ (nx : Nat → Nat) (a k : Nat) : pL nx a (k + 1) = pL nx a k ++ [((pN nx a (k + 1) : Nat) : Int)] := by
  unfold pL
  rw [List.range_succ, List.map_append]; rfl
theorem pN_spec {n : Nat} {l : List Ed} {b : Nat} {D : List Int} (h : IsD n l b D) {a : Nat} (ha : a < n) (h0 : 0 ≤ D.getD a 0) : ∀ k : Nat, (k : Int) ≤ D.getD a 0 → pN (nxC n l D) a k < n ∧ D.getD (pN (nxC n l D) a k) 0 = D.getD a 0 - k
  | 0, _ => ⟨ha, by simp [pN]⟩
  | k + 1, hk => by
    have ih := pN_spec h ha h0 k (by omega)
    have := nxC_spec h ih.1 (by omega)
    exact ⟨this.1, by show D.getD (nxC n l D (pN (nxC n l D) a k)) 0 = _; omega⟩
theorem IsD.only {n : Nat} {l : List Ed} {b : Nat} {D : List Int} (h : IsD n l b D) {i : Nat} (hi : i < n) (h0 : D.getD i 0 = 0) : i = b := by
  rcases h.back i hi (by omega) with h | ⟨y, hy, hA, h1, h2⟩
  · exact h
  · omega
/-- A path. -/
def ptF (n : Nat) (l : List Ed) (a b : Nat) : List Int := if (dsF n l b).getD a 0 < 0 then [] else pL (nxC n l (dsF n l b)) a ((dsF n l b).getD a 0).toNat
def ptA (n : Int) (l : List Ed) (a b : Int) : List Int := if hasB n l a = true ∧ hasB n l b = true then ptF n.toNat l a.toNat b.toNat else []
theorem row_find {n : Nat} {l : List Ed} (hl : ∀ e ∈ l, edOK n e) {b : Nat} {D : List Int} {v k : Nat} (hv : v < n) {W : List Int} (hW : (nrF n l).getD v [] = W) (hk : k < W.length) (hD : D.getD (W.getD k 0).toNat 0 = D.getD v 0 - 1) (hno : ∀ j < k, D.getD (W.getD j 0).toNat 0 ≠ D.getD v 0 - 1) : nxC n l D v = (W.getD k 0).toNat := by
  have hm := nrF_mem hl hv
  rw [hW] at hm
  have hs : W.Pairwise (· ≤ ·) := by rw [← hW, nrF_get]; exact srt_sorted _
  have hAk := (hm _).1 (getD_mem W k 0 hk)
  have hlt := Adj.lt hl hAk
  refine nxC_eq (by omega) (by rw [show (((W.getD k 0).toNat : Nat) : Int) = W.getD k 0 by omega]; exact hAk) hD fun j hj hA hDj => ?_
  have hj' := (hm (j : Int)).2 hA
  obtain ⟨q, hq, hqe⟩ := List.mem_iff_getElem.1 hj'
  have hqd : W.getD q 0 = (j : Int) := by rw [List.getD_eq_getElem?_getD, List.getElem?_eq_getElem hq]; simpa using hqe
  by_cases hqk : q < k
  · exact hno q hqk (by rw [hqd, Int.toNat_natCast]; exact hDj)
  · have : W.getD k 0 ≤ W.getD q 0 := by
      by_cases e : q = k
      · rw [e]; exact Int.le_refl _
      · have := List.pairwise_iff_getElem.1 hs k q hk hq (by omega)
        rw [List.getD_eq_getElem?_getD, List.getElem?_eq_getElem hk, List.getD_eq_getElem?_getD, List.getElem?_eq_getElem hq]
        exact this
    omega
theorem row_has {n : Nat} {l : List Ed} (hl : ∀ e ∈ l, edOK n e) {b : Nat} {D : List Int} (h : IsD n l b D) {v : Nat} (hv : v < n) (h1 : 1 ≤ D.getD v 0) {W : List Int} (hW : (nrF n l).getD v [] = W) (hno : ∀ j < W.length, D.getD (W.getD j 0).toNat 0 ≠ D.getD v 0 - 1) : False := by
  have hm := nrF_mem hl hv
  rw [hW] at hm
  obtain ⟨h2, h3, h4, _⟩ := nxC_spec h hv h1
  obtain ⟨q, hq, hqe⟩ := List.mem_iff_getElem.1 ((hm _).2 h3)
  have hqd : W.getD q 0 = ((nxC n l D v : Nat) : Int) := by rw [List.getD_eq_getElem?_getD, List.getElem?_eq_getElem hq]; simpa using hqe
  exact hno q hq (by rw [hqd, Int.toNat_natCast]; exact h4)
end Go.Vx.L18
