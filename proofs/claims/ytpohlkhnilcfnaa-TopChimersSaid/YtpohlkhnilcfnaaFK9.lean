/- Lemmas of a small executor for the model, and contracts of functions, used for the law that this claim proves. No condition. -/
import Derived.Test.YtpohlkhnilcfnaaFK8
set_option linter.unusedSimpArgs false
set_option linter.unusedVariables false
namespace Go.Vx.I23

theorem inc_eq {n : Int} (h : n ≤ 8000000000000000000) (h' : -8000000000000000000 ≤ n) : inc n = n + 1 := wrapIn (by omega) (by omega)
theorem turns_mem (l : List Iv) (x : Int) : x ∈ turnsI (validL l) ↔ ∃ p ∈ validL l, x = p.1 ∨ x = p.2 + 1 := by
  have := (trnN_spec (validL l) _ (Nat.le_refl _)).2 x
  rw [List.take_length] at this
  rw [turnsI, this]
  constructor
  · rintro ⟨p, hp, h⟩
    have hv := validL_vd l p hp
    rw [inc_eq (by omega) (by omega)] at h
    exact ⟨p, hp, h⟩
  · rintro ⟨p, hp, h⟩
    have hv := validL_vd l p hp
    refine ⟨p, hp, ?_⟩
    rw [inc_eq (by omega) (by omega)]
    exact h
theorem turns_inc (l : List Iv) : Inc (turnsI (validL l)) := (trnN_spec (validL l) _ (Nat.le_refl _)).1
theorem inc_lt {t : List Int} (h : Inc t) {i j : Nat} (hi : i < t.length) (hj : j < t.length) : t.getD i 0 < t.getD j 0 ↔ i < j := by
  have e : ∀ k, (hk : k < t.length) → t.getD k 0 = t[k] := fun k hk => by rw [List.getD_eq_getElem?_getD, List.getElem?_eq_getElem hk]; rfl
  rw [e i hi, e j hj]
  constructor
  · intro hlt
    rcases Nat.lt_trichotomy i j with h1 | h1 | h1
    · exact h1
    · subst h1; omega
    · have := List.pairwise_iff_getElem.1 h j i hj hi h1; omega
  · exact fun hlt => List.pairwise_iff_getElem.1 h i j hi hj hlt

theorem topN_ge (v : List Iv) (t : List Int) : ∀ k i, i < k → (cntR v (t.getD i 0) : Int) ≤ topN v t k
  | 0, i, h => by omega
  | k + 1, i, h => by
    simp only [topN]
    by_cases e : i = k
    · subst e; split <;> omega
    · have := topN_ge v t k i (by omega)
      split <;> omega
theorem topN_ex (v : List Iv) (t : List Int) : ∀ k, topN v t k = 0 ∨ ∃ i, i < k ∧ topN v t k = cntR v (t.getD i 0)
  | 0 => .inl rfl
  | k + 1 => by
    simp only [topN]
    split
    · exact .inr ⟨k, by omega, rfl⟩
    · exact (topN_ex v t k).imp id fun ⟨i, h1, h2⟩ => ⟨i, by omega, h2⟩
theorem rTop_eq (l : List Iv) : rTop l = top l := by
  have h0 := (topN_le (validL l) (turnsI (validL l)) (turnsI (validL l)).length).1
  apply Int.le_antisymm
  · unfold rTop
    rcases topN_ex (validL l) (turnsI (validL l)) (turnsI (validL l)).length with h | ⟨i, _, h⟩
    · omega
    · rw [h, cntR_eq]; have := top_max l ((turnsI (validL l)).getD i 0); omega
  · rcases Nat.eq_zero_or_pos (top l) with h | h
    · unfold rTop; omega
    · obtain ⟨p, hp, hc⟩ := top_ex l h
      obtain ⟨k, hk, e⟩ := mem_getD (0 : Int) ((turns_mem l p.1).2 ⟨p, hp, .inl rfl⟩)
      have := topN_ge (validL l) (turnsI (validL l)) _ k hk
      rw [e, cntR_eq] at this
      unfold rTop; omega

theorem r_first (l : List Iv) (ht : 0 < top l) : rFirst l < (turnsI (validL l)).length := by
  obtain ⟨p, hp, hc⟩ := top_ex l ht
  obtain ⟨k, hk, e⟩ := mem_getD (0 : Int) ((turns_mem l p.1).2 ⟨p, hp, .inl rfl⟩)
  refine fromI_lt _ _ 0 k (Nat.zero_le _) hk ?_
  simp only [Bool.not_eq_true', decide_eq_false_iff_not]
  rw [e, cntR_eq, rTop_eq, hc]; omega
theorem first_cnt (l : List Iv) (ht : 0 < top l) : cnt (validL l) ((turnsI (validL l)).getD (rFirst l) 0) = top l := by
  have := fromI_at _ _ _ (r_first l ht)
  simp only [Bool.not_eq_true', decide_eq_false_iff_not, cntR_eq, rTop_eq] at this
  have h2 := top_max l ((turnsI (validL l)).getD (rFirst l) 0)
  unfold rFirst at *
  simp only [cntR_eq, rTop_eq] at *
  omega
theorem r_last (l : List Iv) (ht : 0 < top l) : rLast l < (turnsI (validL l)).length := by
  obtain ⟨e, e1, e2, e3, p, hp, e4⟩ := cnt_run' (validL_vd l) ht (top_max l) (first_cnt l ht)
  obtain ⟨k, hk, ek⟩ := mem_getD (0 : Int) ((turns_mem l (e + 1)).2 ⟨p, hp, .inr (by omega)⟩)
  refine fromI_lt _ _ _ k ?_ hk ?_
  · have := (inc_lt (turns_inc l) (r_first l ht) hk).1 (by rw [ek]; omega)
    omega
  · simp only [Bool.not_eq_true', beq_eq_false_iff_ne, ne_eq]
    rw [ek, cntR_eq, rTop_eq]; omega
theorem r_ok (l : List Iv) : rTop l ≠ 0 → rFirst l < (turnsI (validL l)).length ∧ rLast l < (turnsI (validL l)).length := by
  intro h
  rw [rTop_eq] at h
  exact ⟨r_first l (by omega), r_last l (by omega)⟩
theorem turn_of {l : List Iv} {x : Int} (h : cnt (validL l) x ≠ cnt (validL l) (x + 1)) : x + 1 ∈ turnsI (validL l) := by
  rcases Nat.lt_or_gt_of_ne h with h | h
  · obtain ⟨p, hp, e⟩ := cnt_rise h
    exact (turns_mem l _).2 ⟨p, hp, .inl e.symm⟩
  · obtain ⟨p, hp, e⟩ := cnt_drop h
    exact (turns_mem l _).2 ⟨p, hp, .inr (by omega)⟩
theorem rbest_peak (l : List Iv) (ht : 0 < top l) : (bestR l).2 = top l ∧ Peak (validL l) (top l) (bestR l).1.1 (bestR l).1.2 := by
  have hF := r_first l ht
  have hL := r_last l ht
  have hb : bestR l = (((turnsI (validL l)).getD (rFirst l) 0, IntKind.i64.wrap ((turnsI (validL l)).getD (rLast l) 0 - 1)), rTop l) := by
    rw [bestR, if_neg (by rw [rTop_eq]; omega)]
  have hw : IntKind.i64.wrap ((turnsI (validL l)).getD (rLast l) 0 - 1) = (turnsI (validL l)).getD (rLast l) 0 - 1 := by
    obtain ⟨p, hp, h⟩ := (turns_mem l _).1 (getD_mem (turnsI (validL l)) (rLast l) 0 hL)
    have := validL_vd l p hp
    exact wrapIn (by omega) (by omega)
  rw [hb, hw]
  have h1 := first_cnt l ht
  have hlast := fromI_at _ _ _ hL
  have hFL : rFirst l ≤ rLast l := fromI_ge _ _ _
  simp only [Bool.not_eq_true', beq_eq_false_iff_ne, ne_eq, cntR_eq, rTop_eq] at hlast
  have hlast : cnt (validL l) ((turnsI (validL l)).getD (rLast l) 0) ≠ top l := by
    intro h; apply hlast
    show ((cnt (validL l) ((turnsI (validL l)).getD (fromI _ _ _) 0) : Nat) : Int) = _
    unfold rLast at h
    simp only [cntR_eq, rTop_eq] at h
    rw [h]
  have hne : rFirst l ≠ rLast l := fun e => hlast (by rw [← e]; exact h1)
  have hlt := (inc_lt (turns_inc l) hF hL).2 (by omega)
  have mid : ∀ j, rFirst l ≤ j → j < rLast l → cnt (validL l) ((turnsI (validL l)).getD j 0) = top l := by
    intro j hj hj'
    have := fromI_not _ _ _ j hj hj' hL
    simp only [Bool.not_eq_false', beq_iff_eq, cntR_eq, rTop_eq] at this
    omega
  refine ⟨rTop_eq l, by simp only; omega, fun x hx he => ?_, fun x => ?_, by simp only; rw [show (turnsI (validL l)).getD (rLast l) 0 - 1 + 1 = (turnsI (validL l)).getD (rLast l) 0 by omega]; exact hlast⟩
  · simp only at hx
    obtain ⟨p, hp, q1, q2⟩ := cnt_left (v := validL l) (x := x) (by omega)
    have := top_max l p.1
    obtain ⟨k, hk, ek⟩ := mem_getD (0 : Int) ((turns_mem l p.1).2 ⟨p, hp, .inl rfl⟩)
    have hkF := (inc_lt (turns_inc l) hk hF).1 (by rw [ek]; omega)
    have := fromI_not _ _ _ k (Nat.zero_le _) hkF hF
    simp only [Bool.not_eq_false', decide_eq_true_eq, cntR_eq, rTop_eq] at this
    rw [ek] at this
    omega
  · simp only
    intro hx1 hx2
    -- by steps from the first one on
    have key : ∀ n : Nat, (turnsI (validL l)).getD (rFirst l) 0 + n < (turnsI (validL l)).getD (rLast l) 0 → cnt (validL l) ((turnsI (validL l)).getD (rFirst l) 0 + n) = top l := by
      intro n
      induction n with
      | zero => intro _; simpa using h1
      | succ n ih =>
        intro hn
        have ih := ih (by omega)
        by_cases he : cnt (validL l) ((turnsI (validL l)).getD (rFirst l) 0 + n) = cnt (validL l) ((turnsI (validL l)).getD (rFirst l) 0 + n + 1)
        · rw [show (turnsI (validL l)).getD (rFirst l) 0 + ((n + 1 : Nat) : Int) = (turnsI (validL l)).getD (rFirst l) 0 + n + 1 by omega, ← he]; exact ih
        · obtain ⟨k, hk, ek⟩ := mem_getD (0 : Int) (turn_of he)
          have k1 := (inc_lt (turns_inc l) hF hk).1 (by rw [ek]; omega)
          have k2 := (inc_lt (turns_inc l) hk hL).1 (by rw [ek]; omega)
          have := mid k (by omega) k2
          rw [ek] at this
          rw [show (turnsI (validL l)).getD (rFirst l) 0 + ((n + 1 : Nat) : Int) = (turnsI (validL l)).getD (rFirst l) 0 + n + 1 by omega]
          exact this
    have := key (x - (turnsI (validL l)).getD (rFirst l) 0).toNat (by omega)
    rw [show (turnsI (validL l)).getD (rFirst l) 0 + ((x - (turnsI (validL l)).getD (rFirst l) 0).toNat : Int) = x by omega] at this
    exact this
theorem best_eq (l : List Iv) : bestI l = bestR l := by
  rcases Nat.eq_zero_or_pos (top l) with h | h
  · rw [bestI, if_pos (by rw [most_top]; omega), bestR, if_pos (by rw [rTop_eq]; omega)]
  · obtain ⟨a1, a2⟩ := best_peak l h
    obtain ⟨b1, b2⟩ := rbest_peak l h
    obtain ⟨c1, c2⟩ := a2.uniq b2
    have : (bestI l).1 = (bestR l).1 := Prod.ext c1 c2
    exact Prod.ext this (a1.trans b1.symm)

/-! Hull. -/
theorem hullPk_iff (l : List Iv) (g t : Int) : hullPk l g t = true ↔ g ≤ (cnt (validL l) t : Int) := by
  simp only [hullPk, decide_eq_true_eq]; rw [cntI_eq]
theorem last_max (l : List Int) (hs : l.Pairwise (· ≤ ·)) (h : 0 < l.length) : l.getD (l.length - 1) 0 ∈ l ∧ ∀ x ∈ l, x ≤ l.getD (l.length - 1) 0 := by
  refine ⟨getD_mem l _ 0 (by omega), fun x hx => ?_⟩
  obtain ⟨k, hk, rfl⟩ := List.mem_iff_getElem.1 hx
  rw [List.getD_eq_getElem?_getD, List.getElem?_eq_getElem (by omega)]
  simp only [Option.getD_some]
  rcases Nat.lt_or_ge k (l.length - 1) with h1 | h1
  · exact List.pairwise_iff_getElem.1 hs k (l.length - 1) hk (by omega) h1
  · have : k = l.length - 1 := by omega
    subst this; exact Int.le_refl _
/-- The hull of the instants with at least g. -/
structure IsHull (v : List Iv) (g lo hi : Int) : Prop where
  lo_is : ∃ p ∈ v, p.1 = lo ∧ g ≤ (cnt v lo : Int)
  lo_min : ∀ p ∈ v, g ≤ (cnt v p.1 : Int) → lo ≤ p.1
  hi_is : ∃ p ∈ v, p.2 = hi ∧ g ≤ (cnt v hi : Int)
  hi_max : ∀ p ∈ v, g ≤ (cnt v p.2 : Int) → p.2 ≤ hi
theorem IsHull.uniq {v : List Iv} {g lo hi lo' hi' : Int} (h : IsHull v g lo hi) (h' : IsHull v g lo' hi') : lo = lo' ∧ hi = hi' := by
  obtain ⟨p, hp, rfl, a⟩ := h.lo_is
  obtain ⟨q, hq, rfl, b⟩ := h'.lo_is
  obtain ⟨r, hr, rfl, c⟩ := h.hi_is
  obtain ⟨s, hs, rfl, d⟩ := h'.hi_is
  have := h.lo_min q hq b
  have := h'.lo_min p hp a
  have := h.hi_max s hs d
  have := h'.hi_max r hr c
  omega
theorem hullI_spec (l : List Iv) (g : Int) : (1 ≤ g ∧ (∃ p ∈ validL l, g ≤ (cnt (validL l) p.1 : Int)) ∧ (hullI l g).2 = true ∧ IsHull (validL l) g (hullI l g).1.1 (hullI l g).1.2) ∨
    (¬ (1 ≤ g ∧ ∃ p ∈ validL l, g ≤ (cnt (validL l) p.1 : Int)) ∧ hullI l g = ((0, 0), false)) := by
  by_cases hg : g < 1
  · exact .inr ⟨by omega, by rw [hullI, if_pos hg]⟩
  · by_cases hex : ∃ p ∈ validL l, g ≤ (cnt (validL l) p.1 : Int)
    · obtain ⟨p, hp, hc⟩ := hex
      have hlos : 0 < (pickL (·.1) (hullPk l g) l).length := List.length_pos_of_mem (pickL_mem.2 ⟨⟨p, hp, rfl⟩, (hullPk_iff l g _).2 hc⟩)
      obtain ⟨q, hq, _, hc2⟩ := cnt_right (v := validL l) (x := p.1) (by omega)
      have hhis : 0 < (pickL (·.2) (hullPk l g) l).length := List.length_pos_of_mem (pickL_mem.2 ⟨⟨q, hq, rfl⟩, (hullPk_iff l g _).2 (by omega)⟩)
      have e : hullI l g = (((pickL (·.1) (hullPk l g) l).getD 0 0, (pickL (·.2) (hullPk l g) l).getD ((pickL (·.2) (hullPk l g) l).length - 1) 0), true) := by
        rw [hullI, if_neg hg, if_neg (by omega)]
      obtain ⟨a1, a2⟩ := head_min _ (pickL_sorted (E := (·.1)) (Pk := hullPk l g) (l := l)) hlos
      obtain ⟨b1, b2⟩ := last_max _ (pickL_sorted (E := (·.2)) (Pk := hullPk l g) (l := l)) hhis
      refine .inl ⟨by omega, ⟨p, hp, hc⟩, by rw [e], ?_⟩
      rw [e]
      obtain ⟨⟨r, hr, er⟩, hr2⟩ := pickL_mem.1 a1
      obtain ⟨⟨s, hs, es⟩, hs2⟩ := pickL_mem.1 b1
      exact ⟨⟨r, hr, er, (hullPk_iff l g _).1 hr2⟩, fun p' hp' hc' => a2 _ (pickL_mem.2 ⟨⟨p', hp', rfl⟩, (hullPk_iff l g _).2 hc'⟩),
        ⟨s, hs, es, (hullPk_iff l g _).1 hs2⟩, fun p' hp' hc' => b2 _ (pickL_mem.2 ⟨⟨p', hp', rfl⟩, (hullPk_iff l g _).2 hc'⟩)⟩
    · refine .inr ⟨fun h => hex h.2, ?_⟩
      have hlos : (pickL (·.1) (hullPk l g) l).length = 0 := by
        rcases Nat.eq_zero_or_pos (pickL (·.1) (hullPk l g) l).length with h | h
        · exact h
        · obtain ⟨x, hx⟩ := List.exists_mem_of_length_pos h
          obtain ⟨⟨p, hp, rfl⟩, h2⟩ := pickL_mem.1 hx
          exact absurd ⟨p, hp, (hullPk_iff l g _).1 h2⟩ hex
      rw [hullI, if_neg hg, if_pos (.inl hlos)]
theorem hloN_spec (v : List Iv) (g : Int) : ∀ k, k ≤ v.length → ((hloN v g k).1 = true → (∃ p ∈ v.take k, p.1 = (hloN v g k).2 ∧ g ≤ (cnt v p.1 : Int)) ∧ ∀ p ∈ v.take k, g ≤ (cnt v p.1 : Int) → (hloN v g k).2 ≤ p.1) ∧
    ((hloN v g k).1 = false → ∀ p ∈ v.take k, ¬ g ≤ (cnt v p.1 : Int))
  | 0, _ => by simp [hloN]
  | k + 1, hk => by
    obtain ⟨h1, h2⟩ := hloN_spec v g k (by omega)
    rw [take_succ' v k (0, 0) (by omega)]
    simp only [hloN, cntR_eq]
    by_cases hc : g ≤ (cnt v (v.getD k (0, 0)).1 : Int) ∧ ((hloN v g k).1 = false ∨ (v.getD k (0, 0)).1 < (hloN v g k).2)
    · rw [if_pos hc]
      refine ⟨fun _ => ⟨⟨_, by simp, rfl, hc.1⟩, fun p hp hg => ?_⟩, fun h => by cases h⟩
      simp only [List.mem_append, List.mem_singleton] at hp
      rcases hp with hp | rfl
      · rcases hc.2 with h | h
        · exact absurd hg (h2 h p hp)
        · cases hb : (hloN v g k).1 with
          | false => exact absurd hg (h2 hb p hp)
          | true => have := (h1 hb).2 p hp hg; simp only; omega
      · exact Int.le_refl _
    · rw [if_neg hc]
      constructor
      · intro hb
        obtain ⟨⟨p, hp, e1, e2⟩, h4⟩ := h1 hb
        refine ⟨⟨p, by simp [hp], e1, e2⟩, fun q hq hg => ?_⟩
        simp only [List.mem_append, List.mem_singleton] at hq
        rcases hq with hq | rfl
        · exact h4 q hq hg
        · have : ¬ (v.getD k (0, 0)).1 < (hloN v g k).2 := fun h => hc ⟨hg, .inr h⟩
          omega
      · intro hb p hp
        simp only [List.mem_append, List.mem_singleton] at hp
        rcases hp with hp | rfl
        · exact h2 hb p hp
        · exact fun hg => hc ⟨hg, .inl hb⟩
theorem hhiN_spec (v : List Iv) (g lo : Int) : ∀ k, k ≤ v.length → lo ≤ hhiN v g lo k ∧ (∀ p ∈ v.take k, g ≤ (cnt v p.2 : Int) → p.2 ≤ hhiN v g lo k) ∧ (hhiN v g lo k = lo ∨ ∃ p ∈ v.take k, p.2 = hhiN v g lo k ∧ g ≤ (cnt v p.2 : Int))
  | 0, _ => by simp [hhiN]
  | k + 1, hk => by
    obtain ⟨h1, h2, h3⟩ := hhiN_spec v g lo k (by omega)
    rw [take_succ' v k (0, 0) (by omega)]
    simp only [hhiN, cntR_eq]
    by_cases hc : g ≤ (cnt v (v.getD k (0, 0)).2 : Int)
    · rw [if_pos hc]
      by_cases hx : (v.getD k (0, 0)).2 > hhiN v g lo k
      · rw [if_pos hx]
        refine ⟨by omega, fun p hp hg => ?_, .inr ⟨_, by simp, rfl, hc⟩⟩
        simp only [List.mem_append, List.mem_singleton] at hp
        rcases hp with hp | rfl
        · have := h2 p hp hg; omega
        · exact Int.le_refl _
      · rw [if_neg hx]
        refine ⟨h1, fun p hp hg => ?_, h3.imp id fun ⟨p, hp, e⟩ => ⟨p, by simp [hp], e⟩⟩
        simp only [List.mem_append, List.mem_singleton] at hp
        rcases hp with hp | rfl
        · exact h2 p hp hg
        · omega
    · rw [if_neg hc]
      refine ⟨h1, fun p hp hg => ?_, h3.imp id fun ⟨p, hp, e⟩ => ⟨p, by simp [hp], e⟩⟩
      simp only [List.mem_append, List.mem_singleton] at hp
      rcases hp with hp | rfl
      · exact h2 p hp hg
      · exact absurd hg hc
theorem hull_eq (l : List Iv) (g : Int) : hullI l g = hullR l g := by
  rcases hullI_spec l g with ⟨hg, ⟨p, hp, hc⟩, h1, h2⟩ | ⟨hn, h1⟩
  · have e : hloI l g = hloN (validL l) g (validL l).length := by rw [hloI, if_pos (by omega)]
    obtain ⟨a1, a2⟩ := hloN_spec (validL l) g _ (Nat.le_refl _)
    obtain ⟨b1, b2, b3⟩ := hhiN_spec (validL l) g (hloI l g).2 _ (Nat.le_refl _)
    rw [List.take_length] at a1 a2 b2 b3
    have ht : (hloN (validL l) g (validL l).length).1 = true := by
      cases hb : (hloN (validL l) g (validL l).length).1 with
      | true => rfl
      | false => exact absurd hc (a2 hb p hp)
    obtain ⟨⟨q, hq, e1, e2⟩, a4⟩ := a1 ht
    have hR : hullR l g = (((hloI l g).2, hhiN (validL l) g (hloI l g).2 (validL l).length), true) := by rw [hullR, if_pos (by rw [e]; exact ht)]
    have hH : IsHull (validL l) g (hullR l g).1.1 (hullR l g).1.2 := by
      rw [hR]
      have e3 : (hloI l g).2 = q.1 := by rw [e, ← e1]
      refine ⟨⟨q, hq, e3.symm, by simp only; rw [e3]; exact e2⟩, fun p' hp' hc' => by simp only; rw [e]; exact a4 p' hp' hc', ?_, b2⟩
      rcases b3 with h | ⟨r, hr, e4, e5⟩
      · -- all ends with that count are the begin itself
        obtain ⟨r, hr, r1, r2⟩ := cnt_right (v := validL l) (x := q.1) (by omega)
        have r3 := b2 r hr (by omega)
        have r4 : r.2 = q.1 := by omega
        refine ⟨r, hr, by simp only; omega, ?_⟩
        simp only; rw [h, e3]; exact e2
      · exact ⟨r, hr, e4, by simp only; rw [← e4]; exact e5⟩
    obtain ⟨c1, c2⟩ := h2.uniq hH
    have : (hullI l g).1 = (hullR l g).1 := Prod.ext c1 c2
    exact Prod.ext this (by rw [h1, hR])
  · rw [h1, hullR, if_neg]
    intro h
    by_cases hg : 0 < g
    · rw [hloI, if_pos hg] at h
      obtain ⟨⟨q, hq, _, e2⟩, _⟩ := (hloN_spec (validL l) g _ (Nat.le_refl _)).1 h
      rw [List.take_length] at hq
      exact hn ⟨by omega, q, hq, e2⟩
    · rw [hloI, if_neg hg] at h; cases h
end Go.Vx.I23
