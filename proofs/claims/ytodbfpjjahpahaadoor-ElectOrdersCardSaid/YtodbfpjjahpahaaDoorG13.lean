/- Lemmas of a small executor for the model, and contracts of functions, used for the law that this claim proves. No condition. -/
import Derived.Test.YtodbfpjjahpahaaDoorG12
set_option linter.unusedSimpArgs false
set_option linter.unusedVariables false
set_option maxRecDepth 100000
namespace Go.Vx.L42
open Go Go.Proofs
theorem pkS_mem (a : Int) (e : Ed) (ks : List (List Int)) (k : List Int) : k ∈ pkS a e ks ↔ k ∈ ks ∨ (e.a = a ∧ k = [e.pa]) ∨ (e.b = a ∧ k = [e.pb]) := by
  have add : ∀ (q : List (List Int)) (z : List Int), k ∈ addKey q z ↔ k ∈ q ∨ k = z := fun q z => by
    unfold addKey
    cases h : q.contains z with
    | true =>
      rw [cond_true]
      constructor
      · exact .inl
      · rintro (h1 | rfl)
        · exact h1
        · exact List.contains_iff_mem.1 h
    | false => rw [cond_false, List.mem_append, List.mem_singleton]
  unfold pkS
  by_cases h1 : e.a = a <;> by_cases h2 : e.b = a <;> simp [h1, h2, add, or_assoc]
theorem pkS_nodup (a : Int) (e : Ed) (ks : List (List Int)) (h : ks.Nodup) : (pkS a e ks).Nodup := by
  have add : ∀ (q : List (List Int)) (z : List Int), q.Nodup → (addKey q z).Nodup := fun q z hq => by
    unfold addKey
    cases h : q.contains z with
    | true => exact hq
    | false =>
      rw [cond_false, List.nodup_append]
      refine ⟨hq, by simp, fun x hx y hy hxy => ?_⟩
      rw [List.mem_singleton] at hy
      subst hxy hy
      rw [List.contains_iff_mem.2 hx] at h; cases h
  unfold pkS
  split <;> split <;> first | exact add _ _ (add _ _ h) | exact add _ _ h | exact h
theorem pkS_len (a : Int) (e : Ed) (ks : List (List Int)) : (pkS a e ks).length ≤ ks.length + 2 := by
  have add : ∀ (q : List (List Int)) (z : List Int), (addKey q z).length ≤ q.length + 1 := fun q z => by
    unfold addKey
    cases q.contains z <;> simp
  unfold pkS
  split <;> split
  · have h1 := add (addKey ks [e.pa]) [e.pb]
    have h2 := add ks [e.pa]
    omega
  · have h2 := add ks [e.pb]; omega
  · have h2 := add ks [e.pa]; omega
  · omega
theorem pk_mem (a : Int) (k : List Int) : ∀ (l : List Ed) (ks : List (List Int)), k ∈ pk a l ks ↔ k ∈ ks ∨ ∃ e ∈ l, (e.a = a ∧ k = [e.pa]) ∨ (e.b = a ∧ k = [e.pb])
  | [], ks => by simp [pk]
  | e :: r, ks => by simp only [pk, pk_mem a k r, pkS_mem, List.mem_cons, exists_eq_or_imp, or_assoc]
theorem pk_nodup (a : Int) : ∀ (l : List Ed) (ks : List (List Int)), ks.Nodup → (pk a l ks).Nodup
  | [], _, h => h
  | e :: r, ks, h => pk_nodup a r _ (pkS_nodup a e ks h)
theorem pk_len (a : Int) : ∀ (l : List Ed) (ks : List (List Int)), (pk a l ks).length ≤ ks.length + 2 * l.length
  | [], ks => by simp [pk]
  | e :: r, ks => by
    have h1 := pk_len a r (pkS a e ks)
    have h2 := pkS_len a e ks
    simp only [pk, List.length_cons]; omega
theorem peerL_ok (a p : Int) : ∀ l : List Ed, (peerL l a p).2.2 = true ↔ ∃ e ∈ l, (e.a = a ∧ e.pa = p) ∨ (e.b = a ∧ e.pb = p)
  | [] => by simp [peerL]
  | e :: r => by
    unfold peerL
    split
    · rename_i h; simp only [true_iff]; exact ⟨e, List.mem_cons_self .., .inl h⟩
    · rename_i h
      split
      · rename_i h2; simp only [true_iff]; exact ⟨e, List.mem_cons_self .., .inr h2⟩
      · rename_i h2
        rw [peerL_ok a p r]
        constructor
        · rintro ⟨x, hx, q⟩; exact ⟨x, List.mem_cons_of_mem _ hx, q⟩
        · rintro ⟨x, hx, q⟩
          rcases List.mem_cons.1 hx with rfl | hx
          · rcases q with q | q
            · exact absurd q h
            · exact absurd q h2
          · exact ⟨x, hx, q⟩
theorem ckL_ends (n : Int) : ∀ (l : List Ed) (seen : List (List Int)), ckL n l seen = 0 → ∀ e ∈ l, endB n e.a e.pa = true ∧ endB n e.b e.pb = true
  | [], _, _, e, he => by cases he
  | x :: r, seen, h, e, he => by
    unfold ckL at h
    split at h
    · cases h
    · rename_i h1
      split at h
      · cases h
      · split at h
        · cases h
        · rcases List.mem_cons.1 he with rfl | he
          · simpa using h1
          · exact ckL_ends n r _ h e he
theorem hasB_parts {n : Int} {l : List Ed} {a : Int} (h : hasB n l a = true) : l.length ≤ 64 ∧ (1 ≤ n ∧ n ≤ 24) ∧ (0 ≤ a ∧ a < n) ∧ ∀ e ∈ l, endB n e.a e.pa = true ∧ endB n e.b e.pb = true := by
  simp only [hasB, decide_eq_true_eq] at h
  obtain ⟨h1, h2, h3⟩ := h
  unfold ckC at h1
  split at h1
  · cases h1
  · split at h1
    · cases h1
    · exact ⟨by omega, by omega, ⟨h2, h3⟩, ckL_ends n l _ h1⟩
def rpL (n : Int) (l : List Ed) (a : Int) (k : Nat) : List Int := ((List.range k).map fun i => ((i : Nat) : Int) + 1).filter fun p => (peerF n l a p).2.2
theorem rpL_succ (n : Int) (l : List Ed) (a : Int) (k : Nat) : rpL n l a (k + 1) = rpL n l a k ++ (if (peerF n l a ((k : Int) + 1)).2.2 = true then [(k : Int) + 1] else []) := by
  unfold rpL
  rw [List.range_succ, List.map_append, List.filter_append]
  congr 1
  simp only [List.map_cons, List.map_nil, List.filter_cons, List.filter_nil]
theorem rpL_mem (n : Int) (l : List Ed) (a : Int) (p : Int) : p ∈ rpL n l a 8 ↔ (1 ≤ p ∧ p ≤ 8) ∧ (peerF n l a p).2.2 = true := by
  unfold rpL
  rw [List.mem_filter, List.mem_map]
  refine and_congr ⟨?_, ?_⟩ Iff.rfl
  · rintro ⟨i, hi, rfl⟩; rw [List.mem_range] at hi; omega
  · intro h; exact ⟨(p - 1).toNat, List.mem_range.2 (by omega), by omega⟩
theorem rpL_none (n : Int) (l : List Ed) (a : Int) (h : hasB n l a = false) (k : Nat) : rpL n l a k = [] := by
  unfold rpL
  rw [List.filter_eq_nil_iff]
  intro x _
  simp [peerF, h]
theorem rpL_len (n : Int) (l : List Ed) (a : Int) (k : Nat) : (rpL n l a k).length ≤ k := by
  unfold rpL
  exact Nat.le_trans (List.length_filter_le ..) (by simp)
end Go.Vx.L42
