/- Lemmas of a small executor for the model, and contracts of functions, used for the law that this claim proves. No condition. -/
import Derived.Test.YtpohlkhnilcfnaaFK6
set_option linter.unusedSimpArgs false
set_option linter.unusedVariables false
namespace Go.Vx.I23
/-! The plain laws. -/
def inB (t : Int) (p : Iv) : Bool := decide (p.1 ≤ t ∧ t ≤ p.2)
def cnt (v : List Iv) (t : Int) : Nat := v.countP (inB t)

theorem take_succ' {α : Type} (l : List α) (k : Nat) (d : α) (h : k < l.length) : l.take (k + 1) = l.take k ++ [l.getD k d] := by
  rw [List.take_add_one, List.getD_eq_getElem?_getD, List.getElem?_eq_getElem h]; rfl
theorem cntN_eq (t : Int) (l : List Iv) : ∀ k, k ≤ l.length → cntN t l k = cnt (l.take k) t
  | 0, _ => by simp [cntN, cnt]
  | k + 1, h => by
    rw [take_succ' l k (0, 0) (by omega)]
    simp only [cntN, cntN_eq t l k (by omega), cnt, List.countP_append, List.countP_cons, List.countP_nil, inB, decide_eq_true_eq]
    omega
theorem cntR_eq (l : List Iv) (t : Int) : cntR l t = cnt l t := by rw [cntR, cntN_eq t l _ (Nat.le_refl _), List.take_length]
theorem agrN_cnt (t : Int) (l : List Iv) : ∀ k, k ≤ l.length → (agrN t l k).length = (l.take k).countP fun p => hasB p t
  | 0, _ => by simp [agrN]
  | k + 1, h => by
    rw [take_succ' l k (0, 0) (by omega)]
    simp only [agrN, List.length_append, agrN_cnt t l k (by omega), List.countP_append, List.countP_cons, List.countP_nil]
    cases hasB (l.getD k (0, 0)) t <;> simp
theorem cnt_valid (l : List Iv) (t : Int) (h : l.length ≤ 48) : cnt (validL l) t = l.countP fun p => hasB p t := by
  rw [validL, if_neg (by omega), cnt, List.countP_filter]
  congr 1
  funext p
  simp only [hasB, inB, Bool.decide_and]
  rw [Bool.and_comm]
theorem agr_len (l : List Iv) (t : Int) : (agrL l t).length = cnt (validL l) t := by
  by_cases h : l.length > 48
  · rw [agrL, if_pos h, validL, if_pos h]; rfl
  · rw [agrL, if_neg h, agrN_cnt t l _ (Nat.le_refl _), List.take_length, cnt_valid l t (by omega)]
theorem cntI_eq (l : List Iv) (t : Int) : cntI l t = (cnt (validL l) t : Int) := by rw [cntI, agr_len]

/-- Increasing, each once. -/
def Inc (l : List Int) : Prop := l.Pairwise (· < ·)
theorem inc_ext : ∀ (a b : List Int), Inc a → Inc b → (∀ x, x ∈ a ↔ x ∈ b) → a = b
  | [], [], _, _, _ => rfl
  | [], y :: s, _, _, h => absurd ((h y).2 (by simp)) (by simp)
  | x :: r, [], _, _, h => absurd ((h x).1 (by simp)) (by simp)
  | x :: r, y :: s, ha, hb, h => by
    simp only [Inc, List.pairwise_cons] at ha hb
    have hxy : x = y := by
      have h1 := (h x).1 (by simp)
      have h2 := (h y).2 (by simp)
      simp only [List.mem_cons] at h1 h2
      rcases h1 with h1 | h1
      · exact h1
      · rcases h2 with h2 | h2
        · exact h2.symm
        · have := hb.1 x h1; have := ha.1 y h2; omega
    subst hxy
    rw [inc_ext r s ha.2 hb.2 fun z => ?_]
    have := h z
    simp only [List.mem_cons] at this
    constructor
    · intro hz
      rcases this.1 (.inr hz) with e | e
      · have := ha.1 z hz; omega
      · exact e
    · intro hz
      rcases this.2 (.inr hz) with e | e
      · have := hb.1 z hz; omega
      · exact e

theorem with_cons (x : Int) (r : List Int) (n : Int) : withI (x :: r) n = if x < n then x :: withI r n else if x = n then x :: r else n :: x :: r := by
  by_cases h : x < n
  · have e : posI n (x :: r) = posI n r + 1 := by simp [posI, h]
    unfold withI
    simp only [e, h, if_true, List.drop_succ_cons, List.take_succ_cons, List.cons_append]
    split <;> rfl
  · have e : posI n (x :: r) = 0 := by simp [posI, h]
    unfold withI
    simp only [e, h, if_false, List.drop_zero, List.head?_cons, Option.some.injEq, List.take_zero, List.nil_append, List.cons_append]
theorem with_nil (n : Int) : withI [] n = [n] := rfl
theorem with_mem (n x : Int) : ∀ l : List Int, x ∈ withI l n ↔ x = n ∨ x ∈ l
  | [] => by simp [with_nil]
  | y :: r => by
    rw [with_cons]
    split
    · simp only [List.mem_cons, with_mem n x r]
      constructor
      · rintro (h | h | h)
        · exact .inr (.inl h)
        · exact .inl h
        · exact .inr (.inr h)
      · rintro (h | h | h)
        · exact .inr (.inl h)
        · exact .inl h
        · exact .inr (.inr h)
    · split
      · rename_i e
        subst e
        simp
      · simp
theorem with_inc (n : Int) : ∀ l : List Int, Inc l → Inc (withI l n)
  | [], _ => by simp [with_nil, Inc]
  | y :: r, h => by
    rw [with_cons]
    have h' := h
    simp only [Inc, List.pairwise_cons] at h'
    split
    · simp only [Inc, List.pairwise_cons]
      refine ⟨fun z hz => ?_, with_inc n r h'.2⟩
      rcases (with_mem n z r).1 hz with e | e
      · omega
      · exact h'.1 z e
    · split
      · exact h
      · simp only [Inc, List.pairwise_cons]
        refine ⟨fun z hz => ?_, h'⟩
        simp only [List.mem_cons] at hz
        rcases hz with e | e
        · omega
        · have := h'.1 z e; omega

theorem edgN_spec (v : List Iv) : ∀ k, k ≤ v.length → Inc (edgN v k) ∧ ∀ x, x ∈ edgN v k ↔ ∃ p ∈ v.take k, x = p.1 ∨ x = p.2
  | 0, _ => by simp [edgN, Inc]
  | k + 1, h => by
    obtain ⟨h1, h2⟩ := edgN_spec v k (by omega)
    refine ⟨with_inc _ _ (with_inc _ _ h1), fun x => ?_⟩
    simp only [edgN]
    rw [with_mem, with_mem, h2, take_succ' v k (0, 0) (by omega)]
    simp only [List.mem_append, List.mem_singleton]
    constructor
    · rintro (e | e | ⟨p, hp, e⟩)
      · exact ⟨_, .inr rfl, .inr e⟩
      · exact ⟨_, .inr rfl, .inl e⟩
      · exact ⟨p, .inl hp, e⟩
    · rintro ⟨p, hp | hp, e⟩
      · exact .inr (.inr ⟨p, hp, e⟩)
      · subst hp
        rcases e with e | e
        · exact .inr (.inl e)
        · exact .inl e
theorem trnN_spec (v : List Iv) : ∀ k, k ≤ v.length → Inc (trnN v k) ∧ ∀ x, x ∈ trnN v k ↔ ∃ p ∈ v.take k, x = p.1 ∨ x = inc p.2
  | 0, _ => by simp [trnN, Inc]
  | k + 1, h => by
    obtain ⟨h1, h2⟩ := trnN_spec v k (by omega)
    refine ⟨with_inc _ _ (with_inc _ _ h1), fun x => ?_⟩
    simp only [trnN]
    rw [with_mem, with_mem, h2, take_succ' v k (0, 0) (by omega)]
    simp only [List.mem_append, List.mem_singleton]
    constructor
    · rintro (e | e | ⟨p, hp, e⟩)
      · exact ⟨_, .inr rfl, .inr e⟩
      · exact ⟨_, .inr rfl, .inl e⟩
      · exact ⟨p, .inl hp, e⟩
    · rintro ⟨p, hp | hp, e⟩
      · exact .inr (.inr ⟨p, hp, e⟩)
      · subst hp
        rcases e with e | e
        · exact .inr (.inl e)
        · exact .inl e
theorem endsN_mem (x : Int) : ∀ v : List Iv, x ∈ endsN v ↔ ∃ p ∈ v, x = p.1 ∨ x = p.2
  | [] => by simp [endsN]
  | p :: r => by
    simp only [endsN, List.mem_cons, endsN_mem x r]
    constructor
    · rintro (e | e | ⟨q, hq, e⟩)
      · exact ⟨p, .inl rfl, .inl e⟩
      · exact ⟨p, .inl rfl, .inr e⟩
      · exact ⟨q, .inr hq, e⟩
    · rintro ⟨q, hq | hq, e⟩
      · subst hq
        rcases e with e | e
        · exact .inl e
        · exact .inr (.inl e)
      · exact .inr (.inr ⟨q, hq, e⟩)
theorem srt_mem (l : List Int) (x : Int) : x ∈ srt l ↔ x ∈ l := List.mem_mergeSort
theorem srt_sorted (l : List Int) : (srt l).Pairwise (· ≤ ·) := by
  have := List.pairwise_mergeSort (le := fun x y : Int => decide (x ≤ y)) (fun a b c h1 h2 => by simp at *; omega) (fun a b => by simp; omega) l
  exact this.imp fun h => by simpa using h

theorem cmp_eq (l : List Int) : cmp l = Lib.compactUpTo l.toArray l.length := rfl
theorem keeps_iff (l : List Int) (j : Nat) (h : j < l.length) : Lib.keeps l.toArray j = true ↔ j = 0 ∨ l.getD j 0 ≠ l.getD (j - 1) 0 := by
  have e : ∀ i, i < l.length → l.toArray[i]! = l.getD i 0 := fun i hi => by
    simp [getElem!_def, hi, List.getD_eq_getElem?_getD]
  simp only [Lib.keeps, decide_eq_true_eq]
  rw [e j h, e (j - 1) (by omega)]
theorem cmpU_spec (l : List Int) (hs : l.Pairwise (· ≤ ·)) : ∀ k, k ≤ l.length → Inc (Lib.compactUpTo l.toArray k) ∧ ∀ x, x ∈ Lib.compactUpTo l.toArray k ↔ x ∈ l.take k
  | 0, _ => by simp [Lib.compactUpTo, Inc]
  | k + 1, h => by
    obtain ⟨h1, h2⟩ := cmpU_spec l hs k (by omega)
    have e : l.toArray[k]! = l.getD k 0 := by simp [getElem!_def, show k < l.length by omega, List.getD_eq_getElem?_getD]
    rw [Lib.compactUpTo_succ, take_succ' l k 0 (by omega), e]
    have hle : ∀ x ∈ l.take k, x ≤ l.getD k 0 := by
      intro x hx
      obtain ⟨i, hi, rfl⟩ := List.mem_iff_getElem.1 hx
      rw [List.length_take] at hi
      rw [List.getElem_take, List.getD_eq_getElem?_getD, List.getElem?_eq_getElem (by omega)]
      exact List.pairwise_iff_getElem.1 hs i k (by omega) (by omega) (by omega)
    have hk := keeps_iff l k (by omega)
    by_cases hb : Lib.keeps l.toArray k = true
    · rw [if_pos hb]
      refine ⟨?_, fun x => by simp only [List.mem_append, List.mem_singleton, h2]⟩
      simp only [Inc, List.pairwise_append, List.pairwise_cons, List.mem_singleton]
      refine ⟨h1, ⟨(fun _ h => by cases h), List.Pairwise.nil⟩, fun a ha b hb' => ?_⟩
      subst hb'
      have ha' := (h2 a).1 ha
      rcases hk.1 hb with h0 | h0
      · subst h0; simp at ha'
      · have h3 := hle a ha'
        rcases Int.lt_or_eq_of_le h3 with h4 | h4
        · exact h4
        · -- equal to the last: then the one before it is equal too
          exfalso
          apply h0
          have hpos : 0 < k := by
            rcases Nat.eq_zero_or_pos k with e0 | e0
            · subst e0; simp at ha'
            · exact e0
          obtain ⟨i, hi, hai⟩ := List.mem_iff_getElem.1 ha'
          rw [List.length_take] at hi
          rw [List.getElem_take] at hai
          have h5 : l.getD (k - 1) 0 = l[k - 1] := by rw [List.getD_eq_getElem?_getD, List.getElem?_eq_getElem (by omega)]; rfl
          have h6 : l.getD k 0 = l[k] := by rw [List.getD_eq_getElem?_getD, List.getElem?_eq_getElem (by omega)]; rfl
          have h7 : l[k - 1] ≤ l[k] := List.pairwise_iff_getElem.1 hs (k - 1) k (by omega) (by omega) (by omega)
          have h8 : l[i] ≤ l[k - 1] := by
            rcases Nat.lt_or_ge i (k - 1) with q | q
            · exact List.pairwise_iff_getElem.1 hs i (k - 1) (by omega) (by omega) q
            · have : i = k - 1 := by omega
              subst this; exact Int.le_refl _
          rw [h6] at h4
          rw [h5, h6]
          omega
    · rw [if_neg hb, List.append_nil]
      refine ⟨h1, fun x => ?_⟩
      rw [h2]
      simp only [List.mem_append, List.mem_singleton]
      constructor
      · exact .inl
      · rintro (h' | h')
        · exact h'
        · have hn : ¬ (k = 0 ∨ l.getD k 0 ≠ l.getD (k - 1) 0) := fun h => hb (hk.2 h)
          have hn1 : ¬ k = 0 := fun h => hn (.inl h)
          have hn2 : l.getD k 0 = l.getD (k - 1) 0 := Classical.byContradiction fun h => hn (.inr h)
          rw [h', hn2, List.getD_eq_getElem?_getD, List.getElem?_eq_getElem (by omega)]
          simp only [Option.getD_some]
          rw [List.mem_iff_getElem]
          exact ⟨k - 1, by rw [List.length_take]; omega, by rw [List.getElem_take]⟩
theorem cmp_spec (l : List Int) (hs : l.Pairwise (· ≤ ·)) : Inc (cmp l) ∧ ∀ x, x ∈ cmp l ↔ x ∈ l := by
  have := cmpU_spec l hs l.length (Nat.le_refl _)
  rw [List.take_length] at this
  exact this
theorem edgesI_spec (l : List Iv) : Inc (edgesI l) ∧ ∀ x, x ∈ edgesI l ↔ ∃ p ∈ validL l, x = p.1 ∨ x = p.2 := by
  obtain ⟨h1, h2⟩ := cmp_spec (srt (endsN (validL l))) (srt_sorted _)
  exact ⟨h1, fun x => by rw [edgesI, h2, srt_mem, endsN_mem]⟩
theorem edges_eq (l : List Iv) : edgesI l = edgesR l := by
  obtain ⟨h1, h2⟩ := edgesI_spec l
  obtain ⟨h3, h4⟩ := edgN_spec (validL l) _ (Nat.le_refl _)
  rw [List.take_length] at h4
  exact inc_ext _ _ h1 h3 fun x => by rw [h2]; exact (h4 x).symm
end Go.Vx.I23
