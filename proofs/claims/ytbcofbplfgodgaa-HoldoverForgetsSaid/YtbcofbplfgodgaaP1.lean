/- Lemmas of a small executor for the model, and contracts of functions, used for the law that this claim proves. No condition. -/
import Derived.Test.YtbcofbplfgodgaaW2
set_option linter.unusedSimpArgs false
set_option linter.unusedVariables false
/- Plain: the lower median, by counting. -/
namespace Go.Vx.L14
def cnt (p : Nat → Bool) (n : Nat) : Nat := ((List.range n).filter p).length
theorem cnt_zero (p : Nat → Bool) : cnt p 0 = 0 := rfl
theorem cnt_succ (p : Nat → Bool) (n : Nat) : cnt p (n + 1) = cnt p n + (if p n = true then 1 else 0) := by
  unfold cnt
  rw [List.range_succ, List.filter_append, List.length_append]
  cases h : p n <;> simp [h]
theorem cnt_le (p : Nat → Bool) (m : Nat) : ∀ n, (∀ j, m ≤ j → j < n → p j = false) → cnt p n ≤ m
  | 0, _ => Nat.zero_le _
  | n + 1, h => by
    rw [cnt_succ]
    have ih := cnt_le p m n fun j a b => h j a (by omega)
    rcases Nat.lt_or_ge n m with hn | hn
    · have : cnt p n ≤ n := by unfold cnt; have := List.length_filter_le p (List.range n); simpa using this
      split <;> omega
    · rw [h n hn (by omega)]; simpa using ih
theorem cnt_ge (p : Nat → Bool) (m : Nat) : ∀ n, m ≤ n → (∀ j, j < m → p j = true) → m ≤ cnt p n
  | 0, h, _ => by omega
  | n + 1, h, hp => by
    rw [cnt_succ]
    rcases Nat.lt_or_ge n m with hn | hn
    · have : m = n + 1 := by omega
      subst this
      have ih := cnt_ge p n n (Nat.le_refl n) fun j hj => hp j (by omega)
      rw [if_pos (hp n (by omega))]; omega
    · have ih := cnt_ge p m n hn hp
      omega
theorem cnt_find (p : Nat → Bool) (r : Nat) : ∀ n, r < cnt p n → ∃ i, i < n ∧ p i = true ∧ cnt p i = r
  | 0, h => by simp [cnt_zero] at h
  | n + 1, h => by
    rw [cnt_succ] at h
    by_cases hr : r < cnt p n
    · obtain ⟨i, a, b, c⟩ := cnt_find p r n hr
      exact ⟨i, by omega, b, c⟩
    · by_cases hp : p n = true
      · rw [if_pos hp] at h
        exact ⟨n, by omega, hp, by omega⟩
      · rw [if_neg hp] at h; omega
theorem cnt_add (p q s : Nat → Bool) : ∀ n, (∀ j, j < n → ((if s j = true then 1 else 0) : Nat) = (if p j = true then 1 else 0) + (if q j = true then 1 else 0)) → cnt s n = cnt p n + cnt q n
  | 0, _ => rfl
  | n + 1, h => by
    rw [cnt_succ, cnt_succ, cnt_succ, cnt_add p q s n fun j hj => h j (by omega), h n (by omega)]
    omega
theorem cnt_congr (p q : Nat → Bool) : ∀ n, (∀ j, j < n → p j = q j) → cnt p n = cnt q n
  | 0, _ => rfl
  | n + 1, h => by rw [cnt_succ, cnt_succ, cnt_congr p q n fun j hj => h j (by omega), h n (by omega)]
theorem cnt_upto (p : Nat → Bool) (i : Nat) : ∀ n, i ≤ n → cnt (fun j => p j && decide (j < i)) n = cnt p i
  | 0, h => by
    have : i = 0 := by omega
    subst this
    rfl
  | n + 1, h => by
    rcases Nat.lt_or_ge n i with hn | hn
    · obtain rfl : i = n + 1 := by omega
      exact cnt_congr _ _ _ fun j hj => by simp [hj]
    · rw [cnt_succ, cnt_upto p i n hn]
      have : decide (n < i) = false := decide_eq_false (by omega)
      simp [this]
theorem cnt_mono (p : Nat → Bool) {i n : Nat} (h : i ≤ n) : cnt p i ≤ cnt p n := by
  induction h with
  | refl => exact Nat.le_refl _
  | step _ ih => rw [cnt_succ]; omega
theorem cnt_list (q : Int → Bool) : ∀ l : List Int, cnt (fun j => q (l.getD j 0)) l.length = l.countP q := by
  intro l
  have key : ∀ (l : List Int) (n : Nat), n ≤ l.length → cnt (fun j => q (l.getD j 0)) n = (l.take n).countP q := by
    intro l n
    induction n with
    | zero => intro _; rfl
    | succ n ih =>
      intro h
      rw [cnt_succ, ih (by omega), List.take_add_one, List.countP_append, List.getD_eq_getElem?_getD, List.getElem?_eq_getElem (by omega)]
      simp [List.countP_cons]
  rw [key l l.length (Nat.le_refl _), List.take_length]
def srt (l : List Int) : List Int := l.mergeSort fun x y => decide (x ≤ y)
theorem srt_len (l : List Int) : (srt l).length = l.length := List.length_mergeSort ..
theorem srt_perm (l : List Int) : (srt l).Perm l := List.mergeSort_perm ..
theorem srt_le (l : List Int) {i j : Nat} (hij : i ≤ j) (hj : j < l.length) : (srt l).getD i 0 ≤ (srt l).getD j 0 := by
  have hs : List.Pairwise (fun x y => decide (x ≤ y) = true) (srt l) := List.pairwise_mergeSort (by intro a b c; simp; omega) (by intro a b; simp; omega) l
  have hl := srt_len l
  rcases Nat.eq_or_lt_of_le hij with rfl | h
  · exact Int.le_refl _
  · have := List.pairwise_iff_getElem.1 hs i j (by omega) (by omega) h
    simp only [List.getD_eq_getElem?_getD, List.getElem?_eq_getElem (show i < (srt l).length by omega), List.getElem?_eq_getElem (show j < (srt l).length by omega), Option.getD_some]
    simpa using this
/-- How many are less than v; how many are v. -/
def ltN (l : List Int) (v : Int) : Nat := l.countP fun x => decide (x < v)
def eqN (l : List Int) (v : Int) : Nat := l.countP fun x => decide (x = v)
def leN (l : List Int) (v : Int) : Nat := l.countP fun x => decide (x ≤ v)
theorem leN_eq (l : List Int) (v : Int) : leN l v = ltN l v + eqN l v := by
  unfold leN ltN eqN
  induction l with
  | nil => rfl
  | cons x r ih =>
    simp only [List.countP_cons, ih, decide_eq_true_eq]
    have : (x ≤ v) ↔ (x < v ∨ x = v) := by omega
    split <;> split <;> split <;> omega
theorem mid_bounds (l : List Int) {m : Nat} (hm : m < l.length) : ltN l ((srt l).getD m 0) ≤ m ∧ m < leN l ((srt l).getD m 0) := by
  have hl := srt_len l
  unfold ltN leN
  rw [← (srt_perm l).countP_eq, ← (srt_perm l).countP_eq, ← cnt_list, ← cnt_list, hl]
  refine ⟨cnt_le _ _ _ fun j h1 h2 => ?_, cnt_ge _ (m + 1) _ (by omega) fun j hj => ?_⟩
  · have := srt_le l h1 h2
    exact decide_eq_false (by omega)
  · have := srt_le l (show j ≤ m by omega) hm
    exact decide_eq_true this
theorem mid_unique (l : List Int) {m : Nat} (hm : m < l.length) {v : Int} (h1 : ltN l v ≤ m) (h2 : m < leN l v) : (srt l).getD m 0 = v := by
  have hl := srt_len l
  unfold ltN at h1
  unfold leN at h2
  rw [← (srt_perm l).countP_eq, ← cnt_list, hl] at h1 h2
  rcases Int.lt_trichotomy ((srt l).getD m 0) v with h | h | h
  · have : m + 1 ≤ cnt (fun j => decide ((srt l).getD j 0 < v)) l.length := cnt_ge _ (m + 1) _ (by omega) fun j hj => by
      have := srt_le l (show j ≤ m by omega) hm
      exact decide_eq_true (by omega)
    omega
  · exact h
  · have : cnt (fun j => decide ((srt l).getD j 0 ≤ v)) l.length ≤ m := cnt_le _ m _ fun j a b => by
      have := srt_le l a b
      exact decide_eq_false (by omega)
    omega
/-- How many are before the one at i, in the order of size, of equal ones that of time. -/
def ltI (l : List Int) (i j : Nat) : Bool := decide (l.getD j 0 < l.getD i 0) || (decide (l.getD j 0 = l.getD i 0) && decide (j < i))
def lessK (l : List Int) (i k : Nat) : Nat := cnt (ltI l i) k
theorem lessK_eq (l : List Int) {i : Nat} (hi : i < l.length) : lessK l i l.length = ltN l (l.getD i 0) + cnt (fun j => decide (l.getD j 0 = l.getD i 0)) i := by
  unfold lessK ltN
  rw [← cnt_list, ← cnt_upto (fun j => decide (l.getD j 0 = l.getD i 0)) i l.length (by omega)]
  refine cnt_add _ _ _ _ fun j hj => ?_
  unfold ltI
  by_cases h1 : l.getD j 0 < l.getD i 0
  · have h2 : ¬ l.getD j 0 = l.getD i 0 := by omega
    rw [decide_eq_true h1, decide_eq_false h2]; rfl
  · rw [decide_eq_false h1]; simp
theorem less_mid (l : List Int) {i : Nat} (hi : i < l.length) {m : Nat} (h : lessK l i l.length = m) : (srt l).getD m 0 = l.getD i 0 := by
  rw [lessK_eq l hi] at h
  have h1 : cnt (fun j => decide (l.getD j 0 = l.getD i 0)) (i + 1) ≤ eqN l (l.getD i 0) := by
    unfold eqN
    rw [← cnt_list]
    exact cnt_mono _ (by omega)
  rw [cnt_succ, if_pos (by simp)] at h1
  have h2 := leN_eq l (l.getD i 0)
  have h3 : leN l (l.getD i 0) ≤ l.length := List.countP_le_length
  exact mid_unique l (by omega) (by omega) (by omega)
theorem less_ex (l : List Int) {m : Nat} (hm : m < l.length) : ∃ i, i < l.length ∧ lessK l i l.length = m := by
  obtain ⟨h1, h2⟩ := mid_bounds l hm
  rw [leN_eq] at h2
  generalize (srt l).getD m 0 = v at h1 h2
  have h3 : m - ltN l v < cnt (fun j => decide (l.getD j 0 = v)) l.length := by
    rw [cnt_list (fun x => decide (x = v))]
    unfold eqN at h2
    omega
  obtain ⟨i, a, b, c⟩ := cnt_find _ _ _ h3
  simp only [decide_eq_true_eq] at b
  refine ⟨i, a, ?_⟩
  rw [lessK_eq l a, b, c]
  omega
end Go.Vx.L14
