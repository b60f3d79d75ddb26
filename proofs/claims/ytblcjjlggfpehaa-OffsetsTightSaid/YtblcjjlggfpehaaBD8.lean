/- Lemmas of a small executor for the model, and contracts of functions, used for the law that this claim proves. No condition. -/
import Derived.Test.YtblcjjlggfpehaaBD7
import Derived.Test.YtblcjjlggfpehaaBSo2
set_option linter.unusedSimpArgs false
set_option linter.unusedVariables false
set_option maxRecDepth 100000
namespace Go.Vx.L53
open Go Go.Proofs
def srt (l : List Int) : List Int := l.mergeSort fun x y => decide (x ≤ y)
theorem srt_len (l : List Int) : (srt l).length = l.length := List.length_mergeSort ..
theorem take_succ' {α : Type} (l : List α) (k : Nat) (d : α) (h : k < l.length) : l.take (k + 1) = l.take k ++ [l.getD k d] := by
  rw [List.take_add_one, List.getD_eq_getElem?_getD, List.getElem?_eq_getElem h]; rfl
def Inc (l : List Int) : Prop := l.Pairwise (· < ·)
theorem inc_ext : ∀ (a b : List Int), Inc a → Inc b → (∀ x, x ∈ a ↔ x ∈ b) → a = b
  | [], [], _, _, _ => rfl
  | [], y :: s, _, _, h => absurd ((h y).2 (by simp)) (by simp)
  | x :: r, [], _, _, h => absurd ((h x).1 (by simp)) (by simp)
  | x :: r, y :: s, ha, hb, h => by
    simp only [Inc, List.pairwise_cons] at ha hb
    have hxy : x = y := by
      have h1 := (h x).1 (by simp)
      have h2 := (h y).2 (by simp)
      simp only [List.mem_cons] at h1 h2
      rcases h1 with h1 | h1
      · exact h1
      · rcases h2 with h2 | h2
        · exact h2.symm
        · have := hb.1 x h1; have := ha.1 y h2; omega
    subst hxy
    rw [inc_ext r s ha.2 hb.2 fun z => ?_]
    have := h z
    simp only [List.mem_cons] at this
    constructor
    · intro hz
      rcases this.1 (.inr hz) with e | e
      · have := ha.1 z hz; omega
      · exact e
    · intro hz
      rcases this.2 (.inr hz) with e | e
      · have := hb.1 z hz; omega
      · exact e

theorem srt_mem (l : List Int) (x : Int) : x ∈ srt l ↔ x ∈ l := List.mem_mergeSort
theorem srt_sorted (l : List Int) : (srt l).Pairwise (· ≤ ·) := by
  have := List.pairwise_mergeSort (le := fun x y : Int => decide (x ≤ y)) (fun a b c h1 h2 => by simp at *; omega) (fun a b => by simp; omega) l
  exact this.imp fun h => by simpa using h

theorem cmp_eq (l : List Int) : cmp l = Lib.compactUpTo l.toArray l.length := rfl
theorem keeps_iff (l : List Int) (j : Nat) (h : j < l.length) : Lib.keeps l.toArray j = true ↔ j = 0 ∨ l.getD j 0 ≠ l.getD (j - 1) 0 := by
  have e : ∀ i, i < l.length → l.toArray[i]! = l.getD i 0 := fun i hi => by
    simp [getElem!_def, hi, List.getD_eq_getElem?_getD]
  simp only [Lib.keeps, decide_eq_true_eq]
  rw [e j h, e (j - 1) (by omega)]
theorem cmpU_spec (l : List Int) (hs : l.Pairwise (· ≤ ·)) : ∀ k, k ≤ l.length → Inc (Lib.compactUpTo l.toArray k) ∧ ∀ x, x ∈ Lib.compactUpTo l.toArray k ↔ x ∈ l.take k
  | 0, _ => by simp [Lib.compactUpTo, Inc]
  | k + 1, h => by
    obtain ⟨h1, h2⟩ := cmpU_spec l hs k (by omega)
    have e : l.toArray[k]! = l.getD k 0 := by simp [getElem!_def, show k < l.length by omega, List.getD_eq_getElem?_getD]
    rw [Lib.compactUpTo_succ, take_succ' l k 0 (by omega), e]
    have hle : ∀ x ∈ l.take k, x ≤ l.getD k 0 := by
      intro x hx
      obtain ⟨i, hi, rfl⟩ := List.mem_iff_getElem.1 hx
      rw [List.length_take] at hi
      rw [List.getElem_take, List.getD_eq_getElem?_getD, List.getElem?_eq_getElem (by omega)]
      exact List.pairwise_iff_getElem.1 hs i k (by omega) (by omega) (by omega)
    have hk := keeps_iff l k (by omega)
    by_cases hb : Lib.keeps l.toArray k = true
    · rw [if_pos hb]
      refine ⟨?_, fun x => by simp only [List.mem_append, List.mem_singleton, h2]⟩
      simp only [Inc, List.pairwise_append, List.pairwise_cons, List.mem_singleton]
      refine ⟨h1, ⟨(fun _ h => by cases h), List.Pairwise.nil⟩, fun a ha b hb' => ?_⟩
      subst hb'
      have ha' := (h2 a).1 ha
      rcases hk.1 hb with h0 | h0
      · subst h0; simp at ha'
      · have h3 := hle a ha'
        rcases Int.lt_or_eq_of_le h3 with h4 | h4
        · exact h4
        · -- equal to the last: then the one before it is equal too
          exfalso
          apply h0
          have hpos : 0 < k := by
            rcases Nat.eq_zero_or_pos k with e0 | e0
            · subst e0; simp at ha'
            · exact e0
          obtain ⟨i, hi, hai⟩ := List.mem_iff_getElem.1 ha'
          rw [List.length_take] at hi
          rw [List.getElem_take] at hai
          have h5 : l.getD (k - 1) 0 = l[k - 1] := by rw [List.getD_eq_getElem?_getD, List.getElem?_eq_getElem (by omega)]; rfl
          have h6 : l.getD k 0 = l[k] := by rw [List.getD_eq_getElem?_getD, List.getElem?_eq_getElem (by omega)]; rfl
          have h7 : l[k - 1] ≤ l[k] := List.pairwise_iff_getElem.1 hs (k - 1) k (by omega) (by omega) (by omega)
          have h8 : l[i] ≤ l[k - 1] := by
            rcases Nat.lt_or_ge i (k - 1) with q | q
            · exact List.pairwise_iff_getElem.1 hs i (k - 1) (by omega) (by omega) q
            · have : i = k - 1 := by omega
              subst this; exact Int.le_refl _
          rw [h6] at h4
          rw [h5, h6]
          omega
    · rw [if_neg hb, List.append_nil]
      refine ⟨h1, fun x => ?_⟩
      rw [h2]
      simp only [List.mem_append, List.mem_singleton]
      constructor
      · exact .inl
      · rintro (h' | h')
        · exact h'
        · have hn : ¬ (k = 0 ∨ l.getD k 0 ≠ l.getD (k - 1) 0) := fun h => hb (hk.2 h)
          have hn1 : ¬ k = 0 := fun h => hn (.inl h)
          have hn2 : l.getD k 0 = l.getD (k - 1) 0 := Classical.byContradiction fun h => hn (.inr h)
          rw [h', hn2, List.getD_eq_getElem?_getD, List.getElem?_eq_getElem (by omega)]
          simp only [Option.getD_some]
          rw [List.mem_iff_getElem]
          exact ⟨k - 1, by rw [List.length_take]; omega, by rw [List.getElem_take]⟩
theorem cmp_spec (l : List Int) (hs : l.Pairwise (· ≤ ·)) : Inc (cmp l) ∧ ∀ x, x ∈ cmp l ↔ x ∈ l := by
  have := cmpU_spec l hs l.length (Nat.le_refl _)
  rw [List.take_length] at this
  exact this
/-- The entry that a variable belongs to. -/
def vE (v : Int) : List Int := if v > 0 then [v - 1] else []
/-- The entries of the first x constraints of a cycle. -/
def blE (l : List Cn) (K : List Int) : Nat → List Int
  | 0 => []
  | x + 1 => blE l K x ++ vE (l.getD (K.getD x 0).toNat cn0).a ++ vE (l.getD (K.getD x 0).toNat cn0).b
theorem vE_len (v : Int) : (vE v).length ≤ 1 := by unfold vE; split <;> simp
theorem vE_mem {v x : Int} : x ∈ vE v ↔ 0 < v ∧ x = v - 1 := by
  unfold vE; split
  · rename_i h; simp [h]
  · rename_i h; simp [h]
theorem blE_len (l : List Cn) (K : List Int) : ∀ x, (blE l K x).length ≤ 2 * x
  | 0 => by simp [blE]
  | x + 1 => by
    have := blE_len l K x
    have := vE_len (l.getD (K.getD x 0).toNat cn0).a
    have := vE_len (l.getD (K.getD x 0).toNat cn0).b
    simp only [blE, List.length_append]; omega
theorem blE_mem {l : List Cn} {K : List Int} {v : Int} : ∀ {x}, v ∈ blE l K x ↔ ∃ z, z < x ∧ (v ∈ vE (l.getD (K.getD z 0).toNat cn0).a ∨ v ∈ vE (l.getD (K.getD z 0).toNat cn0).b)
  | 0 => by simp [blE]
  | x + 1 => by
    simp only [blE, List.mem_append, blE_mem]
    constructor
    · rintro ((⟨z, h1, h2⟩ | h) | h)
      · exact ⟨z, by omega, h2⟩
      · exact ⟨x, by omega, .inl h⟩
      · exact ⟨x, by omega, .inr h⟩
    · rintro ⟨z, h1, h2⟩
      by_cases e : z = x
      · subst e
        rcases h2 with h | h
        · exact .inl (.inr h)
        · exact .inr h
      · exact .inl (.inl ⟨z, by omega, h2⟩)
def blK (l : List En) (c : Cf) : List Int := cyK (sysA l c) (l.length + 1)
/-- Is there something to blame? -/
def blO (l : List En) (c : Cf) : Bool := decide (sysE l c = 0) && cyc (sysA l c) (l.length + 1)
def blA (l : List En) (c : Cf) : List Int := if blO l c then cmp (srt (blE (sysA l c) (blK l c) (blK l c).length)) else []
theorem blO_of {l : List En} {c : Cf} (h : blO l c = true) : sysE l c = 0 ∧ cyc (sysA l c) (l.length + 1) = true := by
  unfold blO at h
  rw [Bool.and_eq_true, decide_eq_true_eq] at h
  exact h
theorem sysA_nz {l : List En} {c : Cf} (h : sysE l c = 0) : ∀ d ∈ sysA l c, 0 < d.a ∨ 0 < d.b := by
  obtain ⟨h1, h2, h3, h4⟩ := sys_zero h
  intro d hd
  unfold sysA at hd
  rw [if_pos h] at hd
  unfold sysC at hd
  simp only [List.mem_append, mem_catN] at hd
  rcases hd with (⟨i, hi, hd⟩ | ⟨i, hi, hd⟩) | ⟨i, hi, hd⟩
  · unfold refI at hd
    split at hd
    · simp only [List.mem_cons, List.not_mem_nil, or_false] at hd
      rcases hd with rfl | rfl <;> (simp only; omega)
    · cases hd
  · have hp := pairsT_in l l.length (Nat.le_refl _) _ (getD_mem (pairsL l) i pr0 hi)
    unfold prvI at hd
    simp only [List.mem_cons, List.not_mem_nil, or_false] at hd
    rcases hd with rfl | rfl <;> (simp only; omega)
  · unfold stpI at hd
    split at hd
    · unfold btw at hd
      simp only [List.mem_cons, List.not_mem_nil, or_false] at hd
      rcases hd with rfl | rfl <;> (simp only; omega)
    · cases hd
structure BlOK (l : List En) (c : Cf) : Prop where
  inc : Inc (blA l c)
  ne : blA l c ≠ []
  rg : ∀ x ∈ blA l c, 0 ≤ x ∧ x < l.length
  has : ∀ i ∈ blK l c, (((sysA l c).getD i.toNat cn0).a = 0 ∨ ((sysA l c).getD i.toNat cn0).a - 1 ∈ blA l c) ∧ (((sysA l c).getD i.toNat cn0).b = 0 ∨ ((sysA l c).getD i.toNat cn0).b - 1 ∈ blA l c)
theorem blA_ok {l : List En} {c : Cf} (h : blO l c = true) : BlOK l c := by
  obtain ⟨h1, h2⟩ := blO_of h
  have hl := sysA_ok h1
  obtain ⟨k1, ⟨v, k2⟩, k3⟩ := cyK_ok (by omega) hl h2
  have hm := Ch_mem k2
  rw [show cyK (sysA l c) (l.length + 1) = blK l c from rfl] at k1 hm
  have hA : blA l c = cmp (srt (blE (sysA l c) (blK l c) (blK l c).length)) := by unfold blA; rw [if_pos h]
  obtain ⟨c1, c2⟩ := cmp_spec (srt (blE (sysA l c) (blK l c) (blK l c).length)) (srt_sorted _)
  rw [← hA] at c1 c2
  have hin : ∀ x, x ∈ blA l c ↔ ∃ i ∈ blK l c, x ∈ vE ((sysA l c).getD i.toNat cn0).a ∨ x ∈ vE ((sysA l c).getD i.toNat cn0).b := fun x => by
    rw [c2, srt_mem, blE_mem]
    constructor
    · rintro ⟨z, hz, h⟩; exact ⟨_, getD_mem (blK l c) z 0 hz, h⟩
    · rintro ⟨i, hi, h⟩
      obtain ⟨z, hz, rfl⟩ := mem_get (d := 0) hi
      exact ⟨z, hz, h⟩
  have hsd : ∀ i ∈ blK l c, cnOK (l.length + 1) ((sysA l c).getD i.toNat cn0) := fun i hi => hl _ (getD_mem _ _ cn0 (hm i hi).2)
  refine ⟨c1, ?_, fun x hx => ?_, fun i hi => ?_⟩
  · obtain ⟨i, hi⟩ := List.exists_mem_of_ne_nil _ k1
    have := sysA_nz h1 _ (getD_mem (sysA l c) i.toNat cn0 (hm i hi).2)
    intro e
    rcases this with g | g
    · have := (hin (((sysA l c).getD i.toNat cn0).a - 1)).2 ⟨i, hi, .inl (vE_mem.2 ⟨g, rfl⟩)⟩
      rw [e] at this; cases this
    · have := (hin (((sysA l c).getD i.toNat cn0).b - 1)).2 ⟨i, hi, .inr (vE_mem.2 ⟨g, rfl⟩)⟩
      rw [e] at this; cases this
  · obtain ⟨i, hi, g⟩ := (hin x).1 hx
    obtain ⟨o1, o2, _⟩ := hsd i hi
    rcases g with g | g
    · obtain ⟨g1, rfl⟩ := vE_mem.1 g; omega
    · obtain ⟨g1, rfl⟩ := vE_mem.1 g; omega
  · obtain ⟨o1, o2, _⟩ := hsd i hi
    constructor
    · by_cases e : ((sysA l c).getD i.toNat cn0).a = 0
      · exact .inl e
      · exact .inr ((hin _).2 ⟨i, hi, .inl (vE_mem.2 ⟨by omega, rfl⟩)⟩)
    · by_cases e : ((sysA l c).getD i.toNat cn0).b = 0
      · exact .inl e
      · exact .inr ((hin _).2 ⟨i, hi, .inr (vE_mem.2 ⟨by omega, rfl⟩)⟩)
/-- Is a variable blamed, or variable 0? -/
def blV (B : List Int) (v : Int) : Bool := decide (v = 0) || decide (v - 1 ∈ B)
def prtP (B : List Int) (d : Cn) : Bool := blV B d.a && blV B d.b
/-- The constraints between what is blamed. -/
def prt (B : List Int) (l : List Cn) : List Cn := l.filter (prtP B)
theorem prt_bnd {l : List En} {c : Cf} (h : blO l c = true) : bndE ((l.length : Int) + 1) (prt (blA l c) (sysA l c)) = 20 := by
  obtain ⟨h1, h2⟩ := blO_of h
  have hl := sysA_ok h1
  obtain ⟨k1, ⟨v, k2⟩, k3⟩ := cyK_ok (by omega) hl h2
  have hm := Ch_mem k2
  rw [show cyK (sysA l c) (l.length + 1) = blK l c from rfl] at k1 k2 k3 hm
  have hb := (blA_ok h).has
  have hlp : allOK (l.length + 1) (prt (blA l c) (sysA l c)) := fun d hd => hl d (List.mem_filter.1 hd).1
  have h159 := (sys_zero h1).2.1
  have hlen : (prt (blA l c) (sysA l c)).length ≤ (sysA l c).length := List.length_filter_le ..
  have hsl := sysA_len l c
  have e1 : ((l.length : Int) + 1).toNat = l.length + 1 := by omega
  have hc : cchk ((l.length : Int) + 1) (prt (blA l c) (sysA l c)) = 0 := by
    unfold cchk
    rw [if_neg (by omega), if_neg (by omega), if_pos]
    rw [e1]; exact hlp
  unfold bndE
  rw [if_neg (not_not_intro hc), e1]
  have hcy : cyc (prt (blA l c) (sysA l c)) (l.length + 1) = true := by
    cases hq : cyc (prt (blA l c) (sysA l c)) (l.length + 1) with
    | true => rfl
    | false =>
      obtain ⟨y, hy⟩ := (cyc_iff (by omega) hlp).1 hq
      have := Ch_pot hy k2 fun i hi => List.mem_filter.2 ⟨getD_mem _ _ cn0 (hm i hi).2, by
        obtain ⟨g1, g2⟩ := hb i hi
        unfold prtP blV
        rw [Bool.and_eq_true, Bool.or_eq_true, Bool.or_eq_true, decide_eq_true_eq, decide_eq_true_eq, decide_eq_true_eq, decide_eq_true_eq]
        exact ⟨g1, g2⟩⟩
      omega
  rw [if_pos hcy]
end Go.Vx.L53
