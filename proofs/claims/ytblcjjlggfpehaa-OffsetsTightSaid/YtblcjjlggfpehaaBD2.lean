/- Lemmas of a small executor for the model, and contracts of functions, used for the law that this claim proves. No condition. -/
import Derived.Test.YtblcjjlggfpehaaBC26
import Derived.Test.YtblcjjlggfpehaaBC30
set_option linter.unusedSimpArgs false
set_option linter.unusedVariables false
set_option maxRecDepth 100000
namespace Go.Vx.L53
open Go Go.Proofs
theorem mem_catN {f : Nat → List Cn} {c : Cn} : ∀ {x : Nat}, c ∈ catN f x ↔ ∃ i, i < x ∧ c ∈ f i
  | 0 => by simp [catN]
  | x + 1 => by
    unfold catN
    rw [List.mem_append, mem_catN]
    constructor
    · rintro (⟨i, h1, h2⟩ | h)
      · exact ⟨i, by omega, h2⟩
      · exact ⟨x, by omega, h⟩
    · rintro ⟨i, h1, h2⟩
      by_cases e : i = x
      · exact .inr (e ▸ h2)
      · exact .inl ⟨i, by omega, h2⟩
/-- What the constraints of a log are like. -/
def cnW (n : Nat) (c : Cn) : Prop := (0 ≤ c.a ∧ c.a < n) ∧ (0 ≤ c.b ∧ c.b < n) ∧ (-5629499534213120 ≤ c.w ∧ c.w ≤ 5629499534213120)
theorem sysA_W {l : List En} {c : Cf} (h : sysE l c = 0) : ∀ d ∈ sysA l c, cnW (l.length + 1) d := by
  obtain ⟨h1, h2, h3, h4⟩ := sys_zero h
  obtain ⟨⟨r1, r2⟩, r3, r4, ⟨r5, r6⟩, r7⟩ := conf_rg h3
  intro d hd
  unfold sysA at hd
  rw [if_pos h] at hd
  unfold sysC at hd
  simp only [List.mem_append, mem_catN] at hd
  rcases hd with (⟨i, hi, hd⟩ | ⟨i, hi, hd⟩) | ⟨i, hi, hd⟩
  · obtain ⟨_, _, _, g1, g2⟩ := lchk_rg h1 hi
    unfold refI at hd
    split at hd
    · simp only [List.mem_cons, List.not_mem_nil, or_false] at hd
      rcases hd with rfl | rfl <;> (unfold cnW; simp only; omega)
    · cases hd
  · have hp := pairsT_in l l.length (Nat.le_refl _) _ (getD_mem (pairsL l) i pr0 hi)
    unfold prvI at hd
    simp only [List.mem_cons, List.not_mem_nil, or_false] at hd
    rcases hd with rfl | rfl <;> (unfold cnW; simp only; omega)
  · have hb := h4 i hi
    unfold badI at hb
    unfold stpI at hd
    split at hd
    · rename_i k hk
      have hb : elOK (spanF l k i) (tolF c (l.getD i en0).nd) := by
        rw [hk] at hb; exact Decidable.not_not.1 hb
      have b1 := lo_bd' hb
      have b2 := hi_bd hb
      obtain ⟨⟨_, b3⟩, _⟩ := hb
      have hk := (lastI_lt hk).1
      rw [List.length_take] at hk
      unfold btw at hd
      simp only [List.mem_cons, List.not_mem_nil, or_false] at hd
      rcases hd with rfl | rfl <;> (unfold cnW; simp only; omega)
    · cases hd
theorem sysA_ok {l : List En} {c : Cf} (h : sysE l c = 0) : allOK (l.length + 1) (sysA l c) := fun d hd => by
  obtain ⟨h1, h2, h3⟩ := sysA_W h d hd
  exact ⟨h1, h2, by omega⟩
theorem sysN_is {l : List En} {c : Cf} (h : sysE l c = 0) : sysN l c = l.length + 1 := by unfold sysN; rw [if_pos h]
theorem sys_cchk {l : List En} {c : Cf} (h : sysE l c = 0) : cchk (sysN l c) (sysA l c) = 0 := by
  have h1 := sysA_len l c
  have h2 := (sys_zero h).2.1
  unfold cchk
  rw [sysN_is h, if_neg (by omega), if_neg (by omega), if_pos]
  rw [show ((l.length : Int) + 1).toNat = l.length + 1 by omega]
  exact sysA_ok h
abbrev tmOK (t : List Int) : Prop := ∀ x ∈ t, r4 x
/-- Are true times consistent? -/
def conB (l : List En) (c : Cf) (t : List Int) : Bool := decide (sysE l c = 0 ∧ t.length = l.length ∧ tmOK t) && hldB (sysA l c) (0 :: t)
theorem r4_cons {t : List Int} (h : tmOK t) (i : Nat) : r4 ((0 :: t).getD i 0) := by
  rcases i with _ | i
  · show r4 0
    exact ⟨by decide, by decide⟩
  · rw [List.getD_cons_succ]
    by_cases hi : i < t.length
    · exact h _ (getD_mem t i 0 hi)
    · rw [List.getD_eq_getElem?_getD, List.getElem?_eq_none (by omega)]
      show r4 0
      exact ⟨by decide, by decide⟩
end Go.Vx.L53
