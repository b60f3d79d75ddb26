/- Lemmas of a small executor for the model, and contracts of functions, used for the law that this claim proves. No condition. -/
import Derived.Test.YtblcjjlggfpehaaBY2
import Derived.Test.YtblcjjlggfpehaaBD2
set_option linter.unusedSimpArgs false
set_option linter.unusedVariables false
set_option maxRecDepth 100000
namespace Go.Vx.L53
open Go Go.Proofs
/-- Each constraint of the first system is implied by one of the second. -/
def dom (l1 l2 : List Cn) : Prop := ∀ c ∈ l1, ∃ d ∈ l2, d.a = c.a ∧ d.b = c.b ∧ d.w ≤ c.w
theorem wk_dom {l1 l2 : List Cn} (h : dom l1 l2) {k i j : Nat} {w : Int} (hw : Wk l1 k i j w) : ∃ w', Wk l2 k i j w' ∧ w' ≤ w := by
  induction hw with
  | nil i => exact ⟨0, .nil i, Int.le_refl _⟩
  | edge hc =>
    obtain ⟨d, hd, e1, e2, e3⟩ := h _ hc
    exact ⟨d.w, by rw [← e1, ← e2]; exact .edge hd, e3⟩
  | comp _ hm _ ih1 ih2 =>
    obtain ⟨u, h1, h2⟩ := ih1
    obtain ⟨v, h3, h4⟩ := ih2
    exact ⟨u + v, .comp h1 hm h3, by omega⟩
theorem pot_dom {l1 l2 : List Cn} (h : dom l1 l2) {y : Nat → Int} (hy : pot l2 y) : pot l1 y := fun c hc => by
  obtain ⟨d, hd, e1, e2, e3⟩ := h c hc
  have := hy d hd
  rw [e1, e2] at this
  omega
theorem fw_dom {n1 n2 : Nat} {l1 l2 : List Cn} {y1 y2 : Nat → Int} (h1 : Sys n1 l1 y1) (h2 : Sys n2 l2 y2) (hn : n1 ≤ n2) (hd : dom l1 l2) {i j : Nat} (hi : i < n1) (hj : j < n1) (hm : mg (fw n1 l1) i j ≠ NN) :
    mg (fw n2 l2) i j ≠ NN ∧ mg (fw n2 l2) i j ≤ mg (fw n1 l1) i j := by
  obtain ⟨w', h3, h4⟩ := wk_dom hd ((fw_inv h1).snd i j hi hj hm)
  have := (fw_inv h2).cmp i j (by omega) (by omega) w' (wk_mono hn h3)
  exact ⟨this.1, by omega⟩
/-- What a log's intervals come from. -/
theorem of_sys {l : List En} {c : Cf} (h : ofE l c = 0) : sysE l c = 0 ∧ cyc (sysA l c) (l.length + 1) = false ∧ (∃ y, Sys (l.length + 1) (sysA l c) y) ∧ ofA l c = ivL l (fw (l.length + 1) (sysA l c)) := by
  obtain ⟨h1, h2⟩ := of_zero h
  obtain ⟨h3, h4⟩ := bnd_zero h2
  have hN := sysN_is h1
  have hT : (sysN l c).toNat = l.length + 1 := by rw [hN]; omega
  rw [hT] at h4
  have hl := (sys_zero h1).2.1
  refine ⟨h1, h4, ⟨_, sys_of ⟨by omega, by omega⟩ (sysA_ok h1) h4⟩, ?_⟩
  unfold ofA bndA
  rw [if_pos h, if_pos h2, hT]
theorem of_of {l : List En} {c : Cf} (h1 : sysE l c = 0) (h4 : cyc (sysA l c) (l.length + 1) = false) : ofE l c = 0 := by
  have hN := sysN_is h1
  have hT : (sysN l c).toNat = l.length + 1 := by rw [hN]; omega
  unfold ofE
  rw [if_neg (not_not_intro h1)]
  unfold bndE
  rw [if_neg (not_not_intro (sys_cchk h1)), hT, h4]; rfl
theorem of_cases {l : List En} {c : Cf} (h1 : sysE l c = 0) : ofE l c = 0 ∨ ofE l c = 20 := by
  have hT : (sysN l c).toNat = l.length + 1 := by rw [sysN_is h1]; omega
  unfold ofE
  rw [if_neg (not_not_intro h1)]
  unfold bndE
  rw [if_neg (not_not_intro (sys_cchk h1)), hT]
  split
  · exact .inr rfl
  · exact .inl rfl
theorem iv_get (l : List En) (M : List (List Int)) {i : Nat} (hi : i < l.length) : (ivL l M).getD i iv0 = ⟨loI l M i, hiI l M i⟩ := by
  unfold ivL
  rw [List.getD_eq_getElem?_getD, List.getElem?_map, List.getElem?_range hi]; rfl
theorem iv_vals {l : List En} {c : Cf} (h1 : sysE l c = 0) {y : Nat → Int} (hs : Sys (l.length + 1) (sysA l c) y) {i : Nat} (hi : i < l.length) :
    loI l (fw (l.length + 1) (sysA l c)) i = (if mg (fw (l.length + 1) (sysA l c)) 0 (i + 1) = NN then -8000000000000000000 else (l.getD i en0).c - mg (fw (l.length + 1) (sysA l c)) 0 (i + 1)) ∧
    hiI l (fw (l.length + 1) (sysA l c)) i = (if mg (fw (l.length + 1) (sysA l c)) (i + 1) 0 = NN then 8000000000000000000 else (l.getD i en0).c + mg (fw (l.length + 1) (sysA l c)) (i + 1) 0) := by
  obtain ⟨_, _, _, g1, g2⟩ := lchk_rg (sys_zero h1).1 hi
  have hn := hs.n2
  unfold loI hiI
  constructor
  · split
    · rfl
    · rename_i h
      have := fw_rng hs (show 0 < l.length + 1 by omega) (show i + 1 < l.length + 1 by omega) h
      exact cwrap (by omega) (by omega)
  · split
    · rfl
    · rename_i h
      have := fw_rng hs (show i + 1 < l.length + 1 by omega) (show 0 < l.length + 1 by omega) h
      exact cwrap (by omega) (by omega)
/-- Where constraints are implied, intervals are within. -/
theorem iv_dom {l1 l2 : List En} {c1 c2 : Cf} (h1 : sysE l1 c1 = 0) (h2 : sysE l2 c2 = 0) {y1 y2 : Nat → Int} (s1 : Sys (l1.length + 1) (sysA l1 c1) y1) (s2 : Sys (l2.length + 1) (sysA l2 c2) y2)
    (hn : l1.length ≤ l2.length) (hg : ∀ i, i < l1.length → l2.getD i en0 = l1.getD i en0) (hd : dom (sysA l1 c1) (sysA l2 c2)) {i : Nat} (hi : i < l1.length) :
    loI l1 (fw (l1.length + 1) (sysA l1 c1)) i ≤ loI l2 (fw (l2.length + 1) (sysA l2 c2)) i ∧ hiI l2 (fw (l2.length + 1) (sysA l2 c2)) i ≤ hiI l1 (fw (l1.length + 1) (sysA l1 c1)) i := by
  obtain ⟨a1, a2⟩ := iv_vals h1 s1 hi
  obtain ⟨b1, b2⟩ := iv_vals h2 s2 (show i < l2.length by omega)
  obtain ⟨_, _, _, g1, g2⟩ := lchk_rg (sys_zero h1).1 hi
  have hn1 := s1.n2
  have hn2 := s2.n2
  rw [hg i hi] at b1 b2
  rw [a1, a2, b1, b2]
  constructor
  · by_cases q1 : mg (fw (l1.length + 1) (sysA l1 c1)) 0 (i + 1) = NN
    · rw [if_pos q1]
      split
      · omega
      · rename_i h
        have := fw_rng s2 (show 0 < l2.length + 1 by omega) (show i + 1 < l2.length + 1 by omega) h
        omega
    · obtain ⟨q2, q3⟩ := fw_dom s1 s2 (by omega) hd (show 0 < l1.length + 1 by omega) (show i + 1 < l1.length + 1 by omega) q1
      rw [if_neg q1, if_neg q2]; omega
  · by_cases q1 : mg (fw (l1.length + 1) (sysA l1 c1)) (i + 1) 0 = NN
    · rw [if_pos q1]
      split
      · omega
      · rename_i h
        have := fw_rng s2 (show i + 1 < l2.length + 1 by omega) (show 0 < l2.length + 1 by omega) h
        omega
    · obtain ⟨q2, q3⟩ := fw_dom s1 s2 (by omega) hd (show i + 1 < l1.length + 1 by omega) (show 0 < l1.length + 1 by omega) q1
      rw [if_neg q1, if_neg q2]; omega
end Go.Vx.L53
