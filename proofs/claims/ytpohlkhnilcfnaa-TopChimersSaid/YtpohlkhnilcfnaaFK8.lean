/- Lemmas of a small executor for the model, and contracts of functions, used for the law that this claim proves. No condition. -/
import Derived.Test.YtpohlkhnilcfnaaFK7
set_option linter.unusedSimpArgs false
set_option linter.unusedVariables false
namespace Go.Vx.I23

/-- What is known of the valid ones. -/
def Vd (v : List Iv) : Prop := ∀ p ∈ v, p.1 ≤ p.2 ∧ -8000000000000000000 ≤ p.1 ∧ p.2 ≤ 8000000000000000000
theorem validL_vd (l : List Iv) : Vd (validL l) := fun _ hp => okB_iff.1 (validL_mem hp).2

theorem cnt_mono (v : List Iv) (x y : Int) (h : ∀ p ∈ v, p.1 ≤ x → x ≤ p.2 → p.1 ≤ y ∧ y ≤ p.2) : cnt v x ≤ cnt v y :=
  List.countP_mono_left fun p hp hx => by
    simp only [inB, decide_eq_true_eq] at hx ⊢
    exact h p hp hx.1 hx.2
theorem cnt_pos {v : List Iv} {x : Int} (h : 0 < cnt v x) : ∃ p ∈ v, p.1 ≤ x ∧ x ≤ p.2 := by
  obtain ⟨p, hp, hx⟩ := List.countP_pos_iff.1 h
  simp only [inB, decide_eq_true_eq] at hx
  exact ⟨p, hp, hx⟩
theorem maxBy {α : Type} (f : α → Int) : ∀ (l : List α) (Q : α → Prop), (∃ a ∈ l, Q a) → ∃ a ∈ l, Q a ∧ ∀ b ∈ l, Q b → f b ≤ f a
  | [], _, ⟨_, h, _⟩ => by cases h
  | x :: r, Q, h => by
    by_cases hr : ∃ a ∈ r, Q a
    · obtain ⟨a, ha, hq, hm⟩ := maxBy f r Q hr
      by_cases hx : Q x ∧ f a < f x
      · refine ⟨x, by simp, hx.1, fun b hb hqb => ?_⟩
        simp only [List.mem_cons] at hb
        rcases hb with rfl | hb
        · omega
        · have := hm b hb hqb; omega
      · refine ⟨a, by simp [ha], hq, fun b hb hqb => ?_⟩
        simp only [List.mem_cons] at hb
        rcases hb with rfl | hb
        · by_cases h2 : f a < f b
          · exact absurd ⟨hqb, h2⟩ hx
          · omega
        · exact hm b hb hqb
    · obtain ⟨a, ha, hq⟩ := h
      simp only [List.mem_cons] at ha
      rcases ha with rfl | ha
      · refine ⟨a, by simp, hq, fun b hb hqb => ?_⟩
        simp only [List.mem_cons] at hb
        rcases hb with rfl | hb
        · omega
        · exact absurd ⟨b, hb, hqb⟩ hr
      · exact absurd ⟨a, ha, hq⟩ hr
theorem cnt_left {v : List Iv} {x : Int} (h : 0 < cnt v x) : ∃ p ∈ v, p.1 ≤ x ∧ cnt v x ≤ cnt v p.1 := by
  obtain ⟨p, hp, hx, hm⟩ := maxBy (·.1) v (fun p => p.1 ≤ x ∧ x ≤ p.2) (cnt_pos h)
  refine ⟨p, hp, hx.1, cnt_mono v x p.1 fun q hq h1 h2 => ?_⟩
  have := hm q hq ⟨h1, h2⟩
  have := hx.1
  (try simp only at *)
  omega
theorem cnt_right {v : List Iv} {x : Int} (h : 0 < cnt v x) : ∃ p ∈ v, x ≤ p.2 ∧ cnt v x ≤ cnt v p.2 := by
  obtain ⟨p, hp, hx, hm⟩ := maxBy (fun p => - p.2) v (fun p => p.1 ≤ x ∧ x ≤ p.2) (cnt_pos h)
  refine ⟨p, hp, hx.2, cnt_mono v x p.2 fun q hq h1 h2 => ?_⟩
  have := hm q hq ⟨h1, h2⟩
  have := hx.2
  (try simp only at *)
  omega
theorem cnt_drop {v : List Iv} {x : Int} (h : cnt v (x + 1) < cnt v x) : ∃ p ∈ v, p.2 = x := by
  refine Classical.byContradiction fun hn => ?_
  have : cnt v x ≤ cnt v (x + 1) := cnt_mono v x (x + 1) fun p hp h1 h2 => by
    have : p.2 ≠ x := fun e => hn ⟨p, hp, e⟩
    omega
  omega
theorem cnt_rise {v : List Iv} {x : Int} (h : cnt v x < cnt v (x + 1)) : ∃ p ∈ v, p.1 = x + 1 := by
  refine Classical.byContradiction fun hn => ?_
  have : cnt v (x + 1) ≤ cnt v x := cnt_mono v (x + 1) x fun p hp h1 h2 => by
    have : p.1 ≠ x + 1 := fun e => hn ⟨p, hp, e⟩
    omega
  omega
/-- From an instant with the greatest count on: until an end. -/
theorem cnt_run {v : List Iv} (hv : Vd v) {g : Nat} (hg : 0 < g) (hmax : ∀ x, cnt v x ≤ g) : ∀ (n : Nat) (y : Int), 8000000000000000000 - y < n → cnt v y = g → ∃ e, y ≤ e ∧ (∀ x, y ≤ x → x ≤ e → cnt v x = g) ∧ cnt v (e + 1) ≠ g ∧ ∃ p ∈ v, p.2 = e
  | 0, y, hn, hy => by
    obtain ⟨p, hp, h1, h2⟩ := cnt_pos (v := v) (x := y) (by omega)
    have := (hv p hp).2.2
    simp at hn; omega
  | n + 1, y, hn, hy => by
    by_cases h1 : cnt v (y + 1) = g
    · obtain ⟨e, e1, e2, e3, e4⟩ := cnt_run hv hg hmax n (y + 1) (by omega) h1
      refine ⟨e, by omega, fun x hx hx' => ?_, e3, e4⟩
      by_cases hxy : x = y
      · rw [hxy]; exact hy
      · exact e2 x (by omega) hx'
    · have := hmax (y + 1)
      refine ⟨y, Int.le_refl _, fun x hx hx' => ?_, h1, cnt_drop (by omega)⟩
      have : x = y := by omega
      rw [this]; exact hy
theorem cnt_run' {v : List Iv} (hv : Vd v) {g : Nat} (hg : 0 < g) (hmax : ∀ x, cnt v x ≤ g) {y : Int} (hy : cnt v y = g) : ∃ e, y ≤ e ∧ (∀ x, y ≤ x → x ≤ e → cnt v x = g) ∧ cnt v (e + 1) ≠ g ∧ ∃ p ∈ v, p.2 = e :=
  cnt_run hv hg hmax (8000000000000000000 - y + 1).toNat y (by
    obtain ⟨p, hp, h1, h2⟩ := cnt_pos (v := v) (x := y) (by omega)
    have := (hv p hp).2.2
    omega) hy

/-- The first interval of instants with the greatest count. -/
structure Peak (v : List Iv) (g : Nat) (lo hi : Int) : Prop where
  le : lo ≤ hi
  before : ∀ x, x < lo → cnt v x ≠ g
  inside : ∀ x, lo ≤ x → x ≤ hi → cnt v x = g
  behind : cnt v (hi + 1) ≠ g
theorem Peak.uniq {v : List Iv} {g : Nat} {lo hi lo' hi' : Int} (h : Peak v g lo hi) (h' : Peak v g lo' hi') : lo = lo' ∧ hi = hi' := by
  have e : lo = lo' := by
    rcases Int.lt_trichotomy lo lo' with a | a | a
    · exact absurd (h.inside lo (Int.le_refl _) h.le) (h'.before lo a)
    · exact a
    · exact absurd (h'.inside lo' (Int.le_refl _) h'.le) (h.before lo' a)
  subst e
  refine ⟨rfl, ?_⟩
  rcases Int.lt_trichotomy hi hi' with a | a | a
  · exact absurd (h'.inside (hi + 1) (by have := h.le; omega) (by omega)) h.behind
  · exact a
  · exact absurd (h.inside (hi' + 1) (by have := h'.le; omega) (by omega)) h'.behind

theorem mostN_ge (l v : List Iv) : ∀ k, ∀ i, i < k → cntI l (v.getD i (0, 0)).1 ≤ mostN l v k
  | 0, i, h => by omega
  | k + 1, i, h => by
    simp only [mostN]
    by_cases e : i = k
    · subst e
      show ((agrL l (v.getD i (0, 0)).1).length : Int) ≤ _
      split <;> omega
    · have := mostN_ge l v k i (by omega)
      split <;> omega
theorem mem_getD {α : Type} {l : List α} {a : α} (d : α) (h : a ∈ l) : ∃ k, k < l.length ∧ l.getD k d = a := by
  obtain ⟨k, hk, e⟩ := List.mem_iff_getElem.1 h
  exact ⟨k, hk, by rw [List.getD_eq_getElem?_getD, List.getElem?_eq_getElem hk, ← e]; rfl⟩
/-- The greatest count. -/
def top (l : List Iv) : Nat := (mostI l).toNat
theorem most_top (l : List Iv) : mostI l = top l := by have := (mostN_le l (validL l) (validL l).length).1; unfold top mostI at *; omega
theorem top_max (l : List Iv) (x : Int) : cnt (validL l) x ≤ top l := by
  rcases Nat.eq_zero_or_pos (cnt (validL l) x) with h | h
  · omega
  · obtain ⟨p, hp, _, h2⟩ := cnt_left h
    obtain ⟨k, hk, e⟩ := mem_getD (0, 0) hp
    have := mostN_ge l (validL l) (validL l).length k hk
    rw [e, cntI_eq] at this
    have h3 := most_top l
    unfold mostI at h3
    omega
theorem top_ex (l : List Iv) (h : 0 < top l) : ∃ p ∈ validL l, cnt (validL l) p.1 = top l := by
  have h3 := most_top l
  rcases mostN_ex l (validL l) _ (Nat.le_refl _) with h0 | ⟨x, hx, h1⟩
  · unfold mostI at h3; omega
  · rw [cntI_eq] at h1
    refine ⟨x, hx, ?_⟩
    unfold mostI at h3; omega

theorem bestPk_iff (l : List Iv) (t : Int) : bestPk l (mostI l) t = true ↔ cnt (validL l) t = top l := by
  simp only [bestPk, beq_iff_eq]
  rw [cntI_eq, most_top]; omega
theorem pickL_sorted {E : Iv → Int} {Pk : Int → Bool} {l : List Iv} : (pickL E Pk l).Pairwise (· ≤ ·) := srt_sorted _

theorem bestHi_spec (l : List Iv) (ht : 0 < top l) (lo : Int) : ∀ (r : List Int) (hi : Int), r.Pairwise (· ≤ ·) → lo ≤ hi → (∀ x, lo ≤ x → x ≤ hi → cnt (validL l) x = top l) →
    (∀ p ∈ validL l, cnt (validL l) p.2 = top l → lo ≤ p.2 → p.2 ∈ r ∨ p.2 ≤ hi) → (∀ t ∈ r, lo ≤ t → hi ≤ t) →
    (cnt (validL l) (hi + 1) = top l ∨ (hi = lo ∧ ∀ p ∈ validL l, cnt (validL l) p.2 = top l → lo ≤ p.2 → p.2 ∈ r)) →
    lo ≤ bestHi l (mostI l) lo r hi ∧ (∀ x, lo ≤ x → x ≤ bestHi l (mostI l) lo r hi → cnt (validL l) x = top l) ∧ cnt (validL l) (bestHi l (mostI l) lo r hi + 1) ≠ top l
  | [], hi, _, h1, h2, h3, _, h5 => by
    exfalso
    rcases h5 with h5 | ⟨rfl, h5⟩
    · obtain ⟨e, e1, e2, _, p, hp, rfl⟩ := cnt_run' (validL_vd l) ht (top_max l) h5
      rcases h3 p hp (e2 p.2 e1 (Int.le_refl _)) (by omega) with h | h
      · cases h
      · omega
    · obtain ⟨e, e1, e2, _, p, hp, rfl⟩ := cnt_run' (validL_vd l) ht (top_max l) (h2 hi (Int.le_refl _) (Int.le_refl _))
      cases h5 p hp (e2 p.2 e1 (Int.le_refl _)) e1
  | t :: r, hi, hs, h1, h2, h3, h4, h5 => by
    rw [List.pairwise_cons] at hs
    simp only [bestHi]
    by_cases hlt : t < lo
    · rw [if_pos hlt]
      refine bestHi_spec l ht lo r hi hs.2 h1 h2 (fun p hp hc hl => ?_) (fun u hu => h4 u (by simp [hu])) ?_
      · rcases h3 p hp hc hl with h | h
        · simp only [List.mem_cons] at h
          rcases h with h | h
          · omega
          · exact .inl h
        · exact .inr h
      · refine h5.imp id fun h => ⟨h.1, fun p hp hc hl => ?_⟩
        have := h.2 p hp hc hl
        simp only [List.mem_cons] at this
        rcases this with h | h
        · omega
        · exact h
    · rw [if_neg hlt]
      have hht := h4 t (by simp) (by omega)
      have hall : ∀ x, lo ≤ x → x ≤ t → cnt (validL l) x = top l := by
        intro x hx hx'
        by_cases hxh : x ≤ hi
        · exact h2 x hx hxh
        · rcases h5 with h5 | ⟨h5, h6⟩
          · obtain ⟨e, e1, e2, _, p, hp, rfl⟩ := cnt_run' (validL_vd l) ht (top_max l) h5
            rcases h3 p hp (e2 p.2 e1 (Int.le_refl _)) (by omega) with h | h
            · have : t ≤ p.2 := by
                simp only [List.mem_cons] at h
                rcases h with h | h
                · omega
                · exact hs.1 _ h
              exact e2 x (by omega) (by omega)
            · omega
          · obtain ⟨e, e1, e2, _, p, hp, rfl⟩ := cnt_run' (validL_vd l) ht (top_max l) (h2 lo (Int.le_refl _) h1)
            have h := h6 p hp (e2 p.2 e1 (Int.le_refl _)) e1
            have : t ≤ p.2 := by
              simp only [List.mem_cons] at h
              rcases h with h | h
              · omega
              · exact hs.1 _ h
            exact e2 x (by omega) (by omega)
      by_cases hb : bestPk l (mostI l) (t + 1) = true
      · rw [if_pos hb]
        refine bestHi_spec l ht lo r t hs.2 (by omega) hall (fun p hp hc hl => ?_) (fun u hu _ => hs.1 u hu) (.inl ((bestPk_iff l _).1 hb))
        rcases h3 p hp hc hl with h | h
        · simp only [List.mem_cons] at h
          rcases h with h | h
          · exact .inr (by omega)
          · exact .inl h
        · exact .inr (by omega)
      · rw [if_neg hb]
        exact ⟨by omega, hall, fun h => hb ((bestPk_iff l _).2 h)⟩

theorem head_min (l : List Int) (hs : l.Pairwise (· ≤ ·)) (h : 0 < l.length) : l.getD 0 0 ∈ l ∧ ∀ x ∈ l, l.getD 0 0 ≤ x := by
  cases l with
  | nil => simp at h
  | cons y r =>
    rw [List.pairwise_cons] at hs
    refine ⟨by simp, fun x hx => ?_⟩
    simp only [List.mem_cons] at hx
    show y ≤ x
    rcases hx with h | h
    · omega
    · exact hs.1 x h
theorem best_peak (l : List Iv) (ht : 0 < top l) : (bestI l).2 = top l ∧ Peak (validL l) (top l) (bestI l).1.1 (bestI l).1.2 := by
  have hne : mostI l ≠ 0 := by rw [most_top]; omega
  have hb : bestI l = ((bestLo l, bestHi l (mostI l) (bestLo l) (pickL (·.2) (bestPk l (mostI l)) l) (bestLo l)), mostI l) := by rw [bestI, if_neg hne]
  obtain ⟨m1, m2⟩ := head_min (pickL (·.1) (bestPk l (mostI l)) l) pickL_sorted (los_pos hne)
  have hlo : cnt (validL l) (bestLo l) = top l := (bestPk_iff l _).1 (pickL_mem.1 m1).2
  have key := bestHi_spec l ht (bestLo l) (pickL (·.2) (bestPk l (mostI l)) l) (bestLo l) pickL_sorted (Int.le_refl _)
    (fun x h1 h2 => by rw [show x = bestLo l by omega]; exact hlo)
    (fun p hp hc _ => .inl (pickL_mem.2 ⟨⟨p, hp, rfl⟩, (bestPk_iff l _).2 hc⟩)) (fun t _ h => h)
    (.inr ⟨rfl, fun p hp hc _ => pickL_mem.2 ⟨⟨p, hp, rfl⟩, (bestPk_iff l _).2 hc⟩⟩)
  rw [hb]
  refine ⟨most_top l, key.1, fun x hx he => ?_, key.2.1, key.2.2⟩
  obtain ⟨p, hp, h1, h2⟩ := cnt_left (v := validL l) (x := x) (by omega)
  have := top_max l p.1
  have := m2 p.1 (pickL_mem.2 ⟨⟨p, hp, rfl⟩, (bestPk_iff l _).2 (by omega)⟩)
  have e : bestLo l = (pickL (·.1) (bestPk l (mostI l)) l).getD 0 0 := rfl
  simp only at hx
  omega
end Go.Vx.I23
