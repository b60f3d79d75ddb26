/- Lemmas of a small executor for the model, and contracts of functions, used for the law that this claim proves. No condition. -/
import Derived.Test.YtgpgmoodfnamjaaBB4
import Derived.Test.YtgpgmoodfnamjaaBB5
set_option linter.unusedSimpArgs false
set_option linter.unusedVariables false
set_option maxRecDepth 100000
namespace Go.Vx.L18
open Go Go.Proofs
/-- One end of an edge that is met by the reference. -/
def rl1 (D : List Int) (i j : Nat) : List Int := D.set i (bet (D.getD i 0) (D.getD j 0))
theorem rst_rl (D : List Int) (e : Ed) : rst D e = rl1 (rl1 D e.a.toNat e.b.toNat) e.b.toNat e.a.toNat := rfl
theorem bet_cases (d e : Int) : (0 ≤ e ∧ (d < 0 ∨ e + 1 < d) ∧ bet d e = e + 1) ∨ ((e < 0 ∨ (0 ≤ d ∧ d ≤ e + 1)) ∧ bet d e = d) := by
  unfold bet
  split
  · rename_i h; exact .inl ⟨h.1, h.2, rfl⟩
  · rename_i h; exact .inr ⟨by omega, rfl⟩
/-- What the reference's numbers are, beside the distances E. -/
structure BoI (n : Nat) (E R : List Int) : Prop where
  len : R.length = n
  ok : ∀ i < n, R.getD i 0 = -1 ∨ (0 ≤ E.getD i 0 ∧ E.getD i 0 ≤ R.getD i 0)
theorem rl1_ok {n : Nat} {l : List Ed} {a : Nat} {E R : List Int} (hE : IsD n l a E) (h : BoI n E R) {i j : Nat} (hi : i < n) (hj : j < n) (hA : Adj l j ((i : Nat) : Int)) :
    BoI n E (rl1 R i j) ∧ (∀ k < n, 0 ≤ R.getD k 0 → 0 ≤ (rl1 R i j).getD k 0 ∧ (rl1 R i j).getD k 0 ≤ R.getD k 0) ∧ (0 ≤ R.getD j 0 → 0 ≤ (rl1 R i j).getD i 0 ∧ (rl1 R i j).getD i 0 ≤ R.getD j 0 + 1) := by
  have hb := bet_cases (R.getD i 0) (R.getD j 0)
  have hii : (rl1 R i j).getD i 0 = bet (R.getD i 0) (R.getD j 0) := by unfold rl1; rw [getD_set, if_pos ⟨rfl, by rw [h.len]; exact hi⟩]
  have hik : ∀ k, k ≠ i → (rl1 R i j).getD k 0 = R.getD k 0 := fun k hk => by unfold rl1; rw [getD_set, if_neg (fun hh => hk hh.1)]
  have oki := h.ok i hi
  have okj := h.ok j hj
  have hed := hE.edge j hj i hi hA
  refine ⟨⟨by unfold rl1; rw [List.length_set, h.len], fun k hk => ?_⟩, fun k hk h0 => ?_, fun h0 => ?_⟩
  · by_cases e : k = i
    · subst e
      rw [hii]
      rcases hb with ⟨h1, h2, h3⟩ | ⟨h1, h3⟩
      · rw [h3]
        rcases okj with h4 | h4
        · omega
        · have := hed h4.1; right; omega
      · rw [h3]; exact oki
    · rw [hik k e]; exact h.ok k hk
  · by_cases e : k = i
    · subst e
      rw [hii]
      rcases hb with ⟨h1, h2, h3⟩ | ⟨h1, h3⟩ <;> rw [h3] <;> omega
    · rw [hik k e]; omega
  · rw [hii]
    rcases hb with ⟨h1, h2, h3⟩ | ⟨h1, h3⟩ <;> rw [h3] <;> omega
theorem rst_ok {n : Nat} {l : List Ed} (hl : ∀ e ∈ l, edOK n e) {a : Nat} {E R : List Int} (hE : IsD n l a E) (h : BoI n E R) {e : Ed} (he : e ∈ l) :
    BoI n E (rst R e) ∧ (∀ k < n, 0 ≤ R.getD k 0 → 0 ≤ (rst R e).getD k 0 ∧ (rst R e).getD k 0 ≤ R.getD k 0) ∧
    (0 ≤ R.getD e.b.toNat 0 → 0 ≤ (rst R e).getD e.a.toNat 0 ∧ (rst R e).getD e.a.toNat 0 ≤ R.getD e.b.toNat 0 + 1) ∧
    (0 ≤ R.getD e.a.toNat 0 → 0 ≤ (rst R e).getD e.b.toNat 0 ∧ (rst R e).getD e.b.toNat 0 ≤ R.getD e.a.toNat 0 + 1) := by
  obtain ⟨h1, h2, h3⟩ := hl e he
  have ha : e.a.toNat < n := by omega
  have hb : e.b.toNat < n := by omega
  have A1 : Adj l e.b.toNat ((e.a.toNat : Nat) : Int) := ⟨e, he, .inr ⟨by omega, by omega⟩⟩
  have A2 : Adj l e.a.toNat ((e.b.toNat : Nat) : Int) := A1.symm
  obtain ⟨p1, p2, p3⟩ := rl1_ok hE h ha hb A1
  obtain ⟨q1, q2, q3⟩ := rl1_ok hE p1 hb ha A2
  rw [rst_rl]
  refine ⟨q1, fun k hk h0 => ?_, fun h0 => ?_, fun h0 => ?_⟩
  · have := p2 k hk h0
    have := q2 k hk this.1
    omega
  · have := p3 h0
    have := q2 _ ha this.1
    omega
  · have := p2 _ ha h0
    have := q3 this.1
    omega
theorem rnd_ok {n : Nat} {l : List Ed} (hl : ∀ e ∈ l, edOK n e) {a : Nat} {E : List Int} (hE : IsD n l a E) : ∀ (s : List Ed) (R : List Int), (∀ e ∈ s, e ∈ l) → BoI n E R →
    BoI n E (rnd s R) ∧ (∀ k < n, 0 ≤ R.getD k 0 → 0 ≤ (rnd s R).getD k 0 ∧ (rnd s R).getD k 0 ≤ R.getD k 0) ∧
    (∀ i < n, ∀ y < n, Adj s y ((i : Nat) : Int) → 0 ≤ R.getD y 0 → 0 ≤ (rnd s R).getD i 0 ∧ (rnd s R).getD i 0 ≤ R.getD y 0 + 1)
  | [], R, _, h => ⟨h, fun k _ h0 => ⟨h0, Int.le_refl _⟩, fun i _ y _ hA => by obtain ⟨e, he, _⟩ := hA; cases he⟩
  | e :: s, R, hs, h => by
    obtain ⟨p1, p2, p3, p4⟩ := rst_ok hl hE h (hs e (by simp))
    obtain ⟨q1, q2, q3⟩ := rnd_ok hl hE s (rst R e) (fun x hx => hs x (by simp [hx])) p1
    have er : rnd (e :: s) R = rnd s (rst R e) := rfl
    rw [er]
    refine ⟨q1, fun k hk h0 => ?_, fun i hi y hy hA h0 => ?_⟩
    · have := p2 k hk h0
      have := q2 k hk this.1
      omega
    · obtain ⟨x, hx, hA⟩ := hA
      rcases List.mem_cons.1 hx with rfl | hx
      · rcases hA with ⟨h1, h2⟩ | ⟨h1, h2⟩
        · have e1 : x.a.toNat = y := by omega
          have e2 : x.b.toNat = i := by omega
          have := p4 (by rw [e1]; exact h0)
          rw [e1, e2] at this
          have := q2 i hi this.1
          omega
        · have e1 : x.b.toNat = y := by omega
          have e2 : x.a.toNat = i := by omega
          have := p3 (by rw [e1]; exact h0)
          rw [e1, e2] at this
          have := q2 i hi this.1
          omega
      · have h1 := p2 y hy h0
        have := q3 i hi y hy ⟨x, hx, hA⟩ h1.1
        omega
theorem rnds_ok {n : Nat} {l : List Ed} (hl : ∀ e ∈ l, edOK n e) {a : Nat} {E : List Int} (hE : IsD n l a E) {R : List Int} (h : BoI n E R) (h0 : R.getD a 0 = 0) (ha : a < n) : ∀ r : Nat,
    BoI n E (rnds l r R) ∧ ∀ i < n, 0 ≤ E.getD i 0 → E.getD i 0 ≤ r → 0 ≤ (rnds l r R).getD i 0 ∧ (rnds l r R).getD i 0 ≤ E.getD i 0
  | 0 => by
    refine ⟨h, fun i hi h1 h2 => ?_⟩
    rcases hE.back i hi h1 with rfl | ⟨y, hy, hA, h3, h4⟩
    · show 0 ≤ R.getD i 0 ∧ R.getD i 0 ≤ E.getD i 0
      omega
    · simp only [Int.natCast_zero] at h2; omega
  | r + 1 => by
    obtain ⟨p1, p2⟩ := rnds_ok hl hE h h0 ha r
    obtain ⟨q1, q2, q3⟩ := rnd_ok hl hE l (rnds l r R) (fun _ h => h) p1
    refine ⟨q1, fun i hi h1 h2 => ?_⟩
    show 0 ≤ (rnd l (rnds l r R)).getD i 0 ∧ (rnd l (rnds l r R)).getD i 0 ≤ E.getD i 0
    by_cases hr : E.getD i 0 ≤ r
    · have := p2 i hi h1 hr
      have := q2 i hi this.1
      omega
    · rcases hE.back i hi h1 with rfl | ⟨y, hy, hA, h3, h4⟩
      · have := hE.zero; omega
      · have := p2 y hy h4 (by omega)
        have := q3 i hi y hy hA.symm this.1
        omega
theorem rdF_eq {n : Nat} {l : List Ed} (hl : ∀ e ∈ l, edOK n e) (hn : n ≤ 24) {a : Nat} (ha : a < n) : rdF n l a = dsF n l a := by
  obtain ⟨hE, hlt⟩ := dsF_is hl hn ha
  have hg : ∀ i, i < n → ((List.replicate n (-1 : Int)).set a 0).getD i 0 = if i = a then 0 else -1 := fun i hi => by
    rw [getD_set, List.length_replicate]
    by_cases h : i = a
    · rw [if_pos ⟨h, ha⟩, if_pos h]
    · rw [if_neg (fun hh => h hh.1), if_neg h, rep_get n i hi]
  have hB : BoI n (dsF n l a) ((List.replicate n (-1 : Int)).set a 0) := ⟨by simp, fun i hi => by
    rw [hg i hi]
    split
    · rename_i e; subst e; right; rw [hE.zero]; omega
    · exact .inl rfl⟩
  obtain ⟨q1, q2⟩ := rnds_ok hl hE hB (by rw [hg a ha, if_pos rfl]) ha n
  refine getD_ext (n := n) q1.len hE.len fun i hi => ?_
  have h1 := hE.low i hi
  have h2 := hlt i hi
  have h3 := q1.ok i hi
  have h4 := q2 i hi
  show (rnds l n ((List.replicate n (-1)).set a 0)).getD i 0 = _
  omega
theorem rdA_eq (n : Int) (l : List Ed) (a : Int) : rdA n l a = dsA n l a := by
  unfold rdA dsA
  split
  · rename_i h
    simp only [hasB, decide_eq_true_eq] at h
    obtain ⟨hc, h0, h1⟩ := h
    obtain ⟨m, rfl, hm, _, hed⟩ := ckC_parts hc
    exact rdF_eq hed hm.2 (by omega)
  · rfl
end Go.Vx.L18
