/- Lemmas of a small executor for the model, and contracts of functions, used for the law that this claim proves. No condition. -/
import Derived.Test.YteefcjenckgaaaaM12
set_option linter.unusedSimpArgs false
set_option linter.unusedVariables false
set_option maxRecDepth 100000
namespace Go.Vx.L28
open Go Go.Proofs
theorem app_lt {P : List Int} {t : Int} {i : Nat} (h : i < P.length) : (P ++ [t]).getD i 0 = P.getD i 0 := by
  rw [List.getD_eq_getElem?_getD, List.getD_eq_getElem?_getD, List.getElem?_append_left h]
theorem app_eq {P : List Int} {t : Int} : (P ++ [t]).getD P.length 0 = t := by
  rw [List.getD_eq_getElem?_getD, List.getElem?_append_right (Nat.le_refl _)]; simp
/-- What the law Rate asks of the times of the requests that passed. -/
def Good (c : Cf) (P : List Int) : Prop :=
  (∀ i, 0 < i → i < P.length → c.gap ≤ P.getD i 0 - P.getD (i - 1) 0) ∧
  (∀ i k, i ≤ k → k < P.length → ((k : Int) - i + 1) * c.cost ≤ c.burst + P.getD k 0 - P.getD i 0) ∧
  ∀ i, i < P.length → 0 ≤ P.getD i 0 ∧ P.getD i 0 ≤ 1125899906842624
theorem Good_nil {c : Cf} : Good c [] := ⟨fun i _ h => by simp at h, fun i k _ h => by simp at h, fun i h => by simp at h⟩
theorem Good_app {c : Cf} {P : List Int} {t : Int} (h : Good c P) (h1 : P ≠ [] → c.gap ≤ t - P.getD (P.length - 1) 0) (h2 : ∀ i, i < P.length → ((P.length : Int) - i + 1) * c.cost ≤ c.burst + t - P.getD i 0) (h3 : c.cost ≤ c.burst) (h4 : 0 ≤ t ∧ t ≤ 1125899906842624) : Good c (P ++ [t]) := by
  obtain ⟨g1, g2, g3⟩ := h
  have hl : (P ++ [t]).length = P.length + 1 := by simp
  refine ⟨fun i h0 hi => ?_, fun i k hik hk => ?_, fun i hi => ?_⟩
  · rw [hl] at hi
    rcases Nat.lt_or_ge i P.length with hlt | hge
    · rw [app_lt hlt, app_lt (by omega)]; exact g1 i h0 hlt
    · have : i = P.length := by omega
      subst this
      rw [app_eq, app_lt (by omega)]
      exact h1 (by rintro rfl; simp at h0)
  · rw [hl] at hk
    rcases Nat.lt_or_ge k P.length with hlt | hge
    · rw [app_lt hlt, app_lt (by omega)]; exact g2 i k hik hlt
    · have : k = P.length := by omega
      subst this
      rcases Nat.lt_or_ge i P.length with hlt | hge
      · rw [app_eq, app_lt hlt]; exact h2 i hlt
      · have : i = P.length := by omega
        subst this
        rw [app_eq]
        have : ((P.length : Int) - P.length + 1) * c.cost = c.cost := by rw [Int.sub_self, Int.zero_add, Int.one_mul]
        rw [this]; omega
  · rw [hl] at hi
    rcases Nat.lt_or_ge i P.length with hlt | hge
    · rw [app_lt hlt]; exact g3 i hlt
    · have : i = P.length := by omega
      subst this
      rw [app_eq]; exact h4
/-- One client's requests, with the times of those that passed. -/
def rateF (c : Cf) (n : Int) (p : PS × List Int) (t : Int) : PS × List Int :=
  ((askF c p.1 n t).2, if (askF c p.1 n t).1.2 = 0 ∧ (askF c p.1 n t).1.1 = 0 then p.2 ++ [t] else p.2)
structure RateInv (c : Cf) (n : Int) (p : PS × List Int) : Prop where
  inv : PInv c p.1
  good : Good c p.2
  one : (p.1.ks = [] ∧ p.2 = []) ∨ (p.1.ks = [n] ∧ (p.2 ≠ [] → p.2.getD (p.2.length - 1) 0 ≤ (p.1.g n).last) ∧ ∀ i, i < p.2.length → ((p.2.length : Int) - i) * c.cost ≤ (p.1.g n).level + (p.1.g n).last - p.2.getD i 0)
theorem judge_v (c : Cf) (r : Rec) (t : Int) : (c.gap ≤ t - r.last ∧ max 0 (r.level - (t - r.last)) + c.cost ≤ c.burst ∧ (judgeF c r t).1 = 0 ∧ (judgeF c r t).2.last = t ∧ (judgeF c r t).2.level = max 0 (r.level - (t - r.last)) + c.cost) ∨ ((judgeF c r t).1 ≠ 0 ∧ (judgeF c r t).2.last = t ∧ (judgeF c r t).2.level = max 0 (r.level - (t - r.last))) := by
  simp only [judgeF]
  split
  · rename_i h; exact .inl ⟨h.1, h.2, rfl, rfl, rfl⟩
  · split
    · exact .inr ⟨by simp only; decide, rfl, rfl⟩
    · exact .inr ⟨by simp only; decide, rfl, rfl⟩
theorem more (m i : Int) (x : Int) : (m - i + 1) * x = (m - i) * x + x := by rw [Int.add_mul, Int.one_mul]
theorem rate_inv {c : Cf} {n t : Int} {p : PS × List Int} (hc : cfOK c = true) (hn : n ≤ 9223372036854775807) (h : RateInv c n p) : RateInv c n (rateF c n p t) := by
  obtain ⟨s, P⟩ := p
  obtain ⟨hi, hg, ho⟩ := h
  have hi' := ask_inv (t := t) hc hi hn
  have hcc := hc
  simp only [cfOK, decide_eq_true_eq] at hcc
  simp only at hi hg ho hi'
  by_cases h1 : n < 0 ∨ ¬ (0 ≤ t ∧ t ≤ 1125899906842624)
  · have e : rateF c n (s, P) t = (s, P) := by simp only [rateF, ask_e1 h1]; simp
    rw [e]; exact ⟨hi, hg, ho⟩
  by_cases h2 : t < s.now
  · have e : rateF c n (s, P) t = (s, P) := by simp only [rateF, ask_e2 h1 h2]; simp
    rw [e]; exact ⟨hi, hg, ho⟩
  rcases ho with ⟨hk, rfl⟩ | ⟨hk, hl, hb⟩
  · have hm : n ∉ s.ks := by rw [hk]; simp
    have e : rateF c n (s, []) t = ((askF c s n t).2, [t]) := by simp only [rateF, ask_n h1 h2 hm]; simp
    rw [e]
    refine ⟨hi', Good_app (P := []) Good_nil (fun h => absurd rfl h) (fun i h => by simp at h) (by omega) (by omega), .inr ?_⟩
    have hr : ¬ c.cap ≤ (([] : List Int).length : Int) := by simp; omega
    simp only [ask_n h1 h2 hm, hk]
    rw [meet_room (s := ⟨t, [], s.g⟩) hr]
    refine ⟨rfl, fun _ => ?_, fun i hi => ?_⟩
    · simp [updG]
    · simp only [List.length_cons, List.length_nil] at hi
      have : i = 0 := by omega
      subst this
      simp [updG]
  · have hm : n ∈ s.ks := by rw [hk]; simp
    obtain ⟨_, _, q1, q2, q3, q4, _, _⟩ := hi.2.2.2.2 n hm
    have e2 : (askF c s n t).2 = ⟨t, [n], updG s.g n (judgeF c (s.g n) t).2⟩ := by rw [ask_k h1 h2 hm, hk]
    have e1 : (askF c s n t).1 = ((judgeF c (s.g n) t).1, 0) := by rw [ask_k h1 h2 hm]
    rw [e2] at hi'
    simp only [rateF, e1, e2]
    have hbl : ∀ i, i < P.length → ((P.length : Int) - i) * c.cost ≤ max 0 ((s.g n).level - (t - (s.g n).last)) + t - P.getD i 0 := fun i hi => by have := hb i hi; omega
    rcases judge_v c (s.g n) t with ⟨j1, j2, j3, j4, j5⟩ | ⟨j3, j4, j5⟩
    · rw [j3, if_pos (by simp)]
      refine ⟨hi', Good_app hg (fun h => ?_) (fun i h => ?_) (by omega) (by omega), .inr ⟨rfl, fun _ => ?_, fun i hi => ?_⟩⟩
      · have := hl h; omega
      · have := hbl i h; rw [more]; omega
      · simp only [updG, if_pos, List.length_append, List.length_cons, List.length_nil, Nat.zero_add, Nat.add_sub_cancel, j4, app_eq]; omega
      · simp only [updG, if_pos, j4, j5]
        simp only [List.length_append, List.length_cons, List.length_nil, Nat.zero_add] at hi ⊢
        rcases Nat.lt_or_ge i P.length with hlt | hge
        · rw [app_lt hlt]
          have := hbl i hlt
          have e : (((P.length + 1 : Nat) : Int) - i) * c.cost = ((P.length : Int) - i) * c.cost + c.cost := by
            rw [← more]; congr 1; omega
          rw [e]; omega
        · have : i = P.length := by omega
          subst this
          have e : (((P.length + 1 : Nat) : Int) - P.length) * c.cost = c.cost := by
            have : (((P.length + 1 : Nat) : Int) - P.length) = 1 := by omega
            rw [this, Int.one_mul]
          rw [app_eq, e]; omega
    · rw [if_neg (by rintro ⟨_, h⟩; exact j3 h)]
      refine ⟨hi', hg, .inr ⟨rfl, fun h => ?_, fun i hi => ?_⟩⟩
      · simp only [updG, if_pos, j4]; have := hl h; omega
      · simp only [updG, if_pos, j4, j5]; have := hbl i hi; omega
def rateN (c : Cf) (n : Int) (l : List Int) : Nat → PS × List Int
  | 0 => (PS0, [])
  | k + 1 => rateF c n (rateN c n l k) (l.getD k 0)
theorem rateN_inv {c : Cf} {n : Int} (hc : cfOK c = true) (hn : n ≤ 9223372036854775807) (l : List Int) : ∀ k, RateInv c n (rateN c n l k)
  | 0 => ⟨PInv_0 hc, Good_nil, .inl ⟨rfl, rfl⟩⟩
  | k + 1 => rate_inv hc hn (rateN_inv hc hn l k)
theorem rateN_len (c : Cf) (n : Int) (l : List Int) : ∀ k, (rateN c n l k).2.length ≤ k
  | 0 => Nat.le_refl _
  | k + 1 => by
    have := rateN_len c n l k
    simp only [rateN, rateF]
    split
    · simp only [List.length_append, List.length_cons, List.length_nil]; omega
    · omega
end Go.Vx.L28
