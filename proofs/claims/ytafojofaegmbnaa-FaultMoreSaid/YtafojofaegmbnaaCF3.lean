/- Lemmas of a small executor for the model, and contracts of functions, used for the law that this claim proves. No condition. -/
import Derived.Test.YtafojofaegmbnaaCF2
set_option linter.unusedSimpArgs false
set_option linter.unusedVariables false
set_option maxRecDepth 100000
namespace Go.Vx.L55
open Go Go.Proofs
def srt (l : List Int) : List Int := l.mergeSort fun x y => decide (x ≤ y)
theorem srt_len (l : List Int) : (srt l).length = l.length := List.length_mergeSort ..
theorem take_succ' {α : Type} (l : List α) (k : Nat) (d : α) (h : k < l.length) : l.take (k + 1) = l.take k ++ [l.getD k d] := by
  rw [List.take_add_one, List.getD_eq_getElem?_getD, List.getElem?_eq_getElem h]; rfl
def Inc (l : List Int) : Prop := l.Pairwise (· < ·)
theorem inc_ext : ∀ (a b : List Int), Inc a → Inc b → (∀ x, x ∈ a ↔ x ∈ b) → a = b
  | [], [], _, _, _ => rfl
  | [], y :: s, _, _, h => absurd ((h y).2 (by simp)) (by simp)
  | x :: r, [], _, _, h => absurd ((h x).1 (by simp)) (by simp)
  | x :: r, y :: s, ha, hb, h => by
    simp only [Inc, List.pairwise_cons] at ha hb
    have hxy : x = y := by
      have h1 := (h x).1 (by simp)
      have h2 := (h y).2 (by simp)
      simp only [List.mem_cons] at h1 h2
      rcases h1 with h1 | h1
      · exact h1
      · rcases h2 with h2 | h2
        · exact h2.symm
        · have := hb.1 x h1; have := ha.1 y h2; omega
    subst hxy
    rw [inc_ext r s ha.2 hb.2 fun z => ?_]
    have := h z
    simp only [List.mem_cons] at this
    constructor
    · intro hz
      rcases this.1 (.inr hz) with e | e
      · have := ha.1 z hz; omega
      · exact e
    · intro hz
      rcases this.2 (.inr hz) with e | e
      · have := hb.1 z hz; omega
      · exact e

theorem srt_mem (l : List Int) (x : Int) : x ∈ srt l ↔ x ∈ l := List.mem_mergeSort
theorem srt_sorted (l : List Int) : (srt l).Pairwise (· ≤ ·) := by
  have := List.pairwise_mergeSort (le := fun x y : Int => decide (x ≤ y)) (fun a b c h1 h2 => by simp at *; omega) (fun a b => by simp; omega) l
  exact this.imp fun h => by simpa using h

theorem cmp_eq (l : List Int) : cmp l = Lib.compactUpTo l.toArray l.length := rfl
theorem keeps_iff (l : List Int) (j : Nat) (h : j < l.length) : Lib.keeps l.toArray j = true ↔ j = 0 ∨ l.getD j 0 ≠ l.getD (j - 1) 0 := by
  have e : ∀ i, i < l.length → l.toArray[i]! = l.getD i 0 := fun i hi => by
    simp [getElem!_def, hi, List.getD_eq_getElem?_getD]
  simp only [Lib.keeps, decide_eq_true_eq]
  rw [e j h, e (j - 1) (by omega)]
theorem cmpU_spec (l : List Int) (hs : l.Pairwise (· ≤ ·)) : ∀ k, k ≤ l.length → Inc (Lib.compactUpTo l.toArray k) ∧ ∀ x, x ∈ Lib.compactUpTo l.toArray k ↔ x ∈ l.take k
  | 0, _ => by simp [Lib.compactUpTo, Inc]
  | k + 1, h => by
    obtain ⟨h1, h2⟩ := cmpU_spec l hs k (by omega)
    have e : l.toArray[k]! = l.getD k 0 := by simp [getElem!_def, show k < l.length by omega, List.getD_eq_getElem?_getD]
    rw [Lib.compactUpTo_succ, take_succ' l k 0 (by omega), e]
    have hle : ∀ x ∈ l.take k, x ≤ l.getD k 0 := by
      intro x hx
      obtain ⟨i, hi, rfl⟩ := List.mem_iff_getElem.1 hx
      rw [List.length_take] at hi
      rw [List.getElem_take, List.getD_eq_getElem?_getD, List.getElem?_eq_getElem (by omega)]
      exact List.pairwise_iff_getElem.1 hs i k (by omega) (by omega) (by omega)
    have hk := keeps_iff l k (by omega)
    by_cases hb : Lib.keeps l.toArray k = true
    · rw [if_pos hb]
      refine ⟨?_, fun x => by simp only [List.mem_append, List.mem_singleton, h2]⟩
      simp only [Inc, List.pairwise_append, List.pairwise_cons, List.mem_singleton]
      refine ⟨h1, ⟨(fun _ h => by cases h), List.Pairwise.nil⟩, fun a ha b hb' => ?_⟩
      subst hb'
      have ha' := (h2 a).1 ha
      rcases hk.1 hb with h0 | h0
      · subst h0; simp at ha'
      · have h3 := hle a ha'
        rcases Int.lt_or_eq_of_le h3 with h4 | h4
        · exact h4
        · -- equal to the last: then the one before it is equal too
          exfalso
          apply h0
          have hpos : 0 < k := by
            rcases Nat.eq_zero_or_pos k with e0 | e0
            · subst e0; simp at ha'
            · exact e0
          obtain ⟨i, hi, hai⟩ := List.mem_iff_getElem.1 ha'
          rw [List.length_take] at hi
          rw [List.getElem_take] at hai
          have h5 : l.getD (k - 1) 0 = l[k - 1] := by rw [List.getD_eq_getElem?_getD, List.getElem?_eq_getElem (by omega)]; rfl
          have h6 : l.getD k 0 = l[k] := by rw [List.getD_eq_getElem?_getD, List.getElem?_eq_getElem (by omega)]; rfl
          have h7 : l[k - 1] ≤ l[k] := List.pairwise_iff_getElem.1 hs (k - 1) k (by omega) (by omega) (by omega)
          have h8 : l[i] ≤ l[k - 1] := by
            rcases Nat.lt_or_ge i (k - 1) with q | q
            · exact List.pairwise_iff_getElem.1 hs i (k - 1) (by omega) (by omega) q
            · have : i = k - 1 := by omega
              subst this; exact Int.le_refl _
          rw [h6] at h4
          rw [h5, h6]
          omega
    · rw [if_neg hb, List.append_nil]
      refine ⟨h1, fun x => ?_⟩
      rw [h2]
      simp only [List.mem_append, List.mem_singleton]
      constructor
      · exact .inl
      · rintro (h' | h')
        · exact h'
        · have hn : ¬ (k = 0 ∨ l.getD k 0 ≠ l.getD (k - 1) 0) := fun h => hb (hk.2 h)
          have hn1 : ¬ k = 0 := fun h => hn (.inl h)
          have hn2 : l.getD k 0 = l.getD (k - 1) 0 := Classical.byContradiction fun h => hn (.inr h)
          rw [h', hn2, List.getD_eq_getElem?_getD, List.getElem?_eq_getElem (by omega)]
          simp only [Option.getD_some]
          rw [List.mem_iff_getElem]
          exact ⟨k - 1, by rw [List.length_take]; omega, by rw [List.getElem_take]⟩
theorem cmp_spec (l : List Int) (hs : l.Pairwise (· ≤ ·)) : Inc (cmp l) ∧ ∀ x, x ∈ cmp l ↔ x ∈ l := by
  have := cmpU_spec l hs l.length (Nat.le_refl _)
  rw [List.take_length] at this
  exact this
theorem sort_ok (l : List Int) (t : TypeId) (cap : Option Nat) (hl : l.length ≤ 1000000) :
    Runs Try.prog 36 [.sl 0 1 0 l.length cap] [.arr true t 1 l.length (intF l)] (Det (.tup []) [.arr true t 1 l.length (intF (srt l))]) :=
  sort_bridge Try.call36 (Any.slices_Sort_int Try.lays189) (Any.slices_Sort_int_none Try.lays189) l t cap hl
theorem compact_ok (l : List Int) (t : TypeId) (hl : l.length ≤ 1000000) :
    Runs Try.prog 37 [.sl 0 1 0 l.length none] [.arr true t 1 l.length (intF l)] (Det (.sl 0 1 0 (cmp l).length none) [.arr true t 1 l.length (intF (cmpZ l))]) :=
  compact_bridge Try.call37 (fun blk off cap zs w hH _ h3 h4 => Any.slices_Compact_int Try.lays20c blk off cap zs w hH h3 h4) (Any.slices_Compact_int_empty Try.lays20c) l t hl
/-- The nodes that have faults, up to a node. -/
def rN (l : List Ft) (k : Nat) : List Int := ((List.range k).map fun n => ((n : Nat) : Int)).filter fun n => l.any fun f => f.nd == n
theorem rN_succ (l : List Ft) (k : Nat) : rN l (k + 1) = if (l.any fun f => f.nd == (k : Int)) = true then rN l k ++ [(k : Int)] else rN l k := by
  unfold rN
  rw [List.range_succ, List.map_append, List.filter_append]
  by_cases h : (l.any fun f => f.nd == (k : Int)) = true
  · rw [if_pos h]; simp only [List.map_cons, List.map_nil, List.filter_cons, h, if_true, List.filter_nil]
  · rw [if_neg h]; simp only [List.map_cons, List.map_nil, List.filter_cons, h, if_false, List.filter_nil, List.append_nil, Bool.false_eq_true]
theorem rN_len (l : List Ft) (k : Nat) : (rN l k).length ≤ k := by
  unfold rN
  exact Nat.le_trans (List.length_filter_le ..) (by simp)
theorem rN_inc (l : List Ft) (k : Nat) : Inc (rN l k) := by
  unfold rN Inc
  refine List.Pairwise.filter _ ?_
  rw [List.pairwise_map]
  exact (List.pairwise_lt_range).imp fun h => by omega
theorem rN_mem (l : List Ft) (k : Nat) (x : Int) : x ∈ rN l k ↔ (0 ≤ x ∧ x < k) ∧ ∃ f ∈ l, f.nd = x := by
  unfold rN
  rw [List.mem_filter, List.mem_map]
  simp only [List.mem_range, List.any_eq_true, beq_iff_eq]
  constructor
  · rintro ⟨⟨n, hn, rfl⟩, h⟩; exact ⟨⟨by omega, by omega⟩, h⟩
  · rintro ⟨⟨h1, h2⟩, h⟩; exact ⟨⟨x.toNat, by omega, by omega⟩, h⟩
theorem ckL_nd : ∀ (l : List Ft), ckL l = 0 → ∀ f ∈ l, ck1 f = 0
  | [], _, f, h => by cases h
  | g :: r, h, f, hf => by
    unfold ckL at h
    split at h
    · rename_i h1
      rcases List.mem_cons.1 hf with rfl | hf
      · exact h1
      · exact ckL_nd r h f hf
    · contradiction
theorem ckC_ok {l : List Ft} (h : ckC l = 0) : l.length ≤ 32 ∧ ∀ f ∈ l, ck1 f = 0 := by
  unfold ckC at h
  split at h
  · cases h
  · exact ⟨by omega, ckL_nd l h⟩
theorem ck1_ok {f : Ft} (h : ck1 f = 0) : (0 ≤ f.nd ∧ f.nd < 24) ∧ (0 ≤ f.fr ∧ f.fr ≤ f.to ∧ f.to ≤ 1125899906842624) ∧ (1 ≤ f.kd ∧ f.kd ≤ 9) ∧ (rg f.kd).1 ≤ f.vl ∧ f.vl ≤ (rg f.kd).2 := by
  unfold ck1 at h
  split at h
  · cases h
  split at h
  · cases h
  split at h
  · cases h
  split at h
  · cases h
  exact ⟨by omega, by omega, by omega, by omega, by omega⟩
theorem nodes_eq {l : List Ft} (h : ckC l = 0) : cmp (srt (l.map (·.nd))) = rN l 24 := by
  obtain ⟨h1, h2⟩ := cmp_spec (srt (l.map (·.nd))) (srt_sorted _)
  refine inc_ext _ _ h1 (rN_inc l 24) fun x => ?_
  rw [h2, srt_mem, rN_mem, List.mem_map]
  constructor
  · rintro ⟨f, hf, rfl⟩
    have := (ck1_ok ((ckC_ok h).2 f hf)).1
    exact ⟨⟨by omega, by omega⟩, f, hf, rfl⟩
  · rintro ⟨_, h⟩; exact h
/-- The nodes of a script. -/
def ndL (l : List Ft) : List Int := if ckC l = 0 then rN l 24 else []
end Go.Vx.L55
