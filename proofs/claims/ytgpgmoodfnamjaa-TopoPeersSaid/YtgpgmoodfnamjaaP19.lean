/- Lemmas of a small executor for the model, and contracts of functions, used for the law that this claim proves. No condition. -/
import Derived.Test.YtgpgmoodfnamjaaP18
import Derived.Test.YtgpgmoodfnamjaaA14
set_option linter.unusedSimpArgs false
set_option linter.unusedVariables false
set_option maxRecDepth 100000
namespace Go.Vx.L18
open Go Go.Proofs
def prs (n : Int) (l : List Ed) : Nat → List (List Int)
  | 0 => []
  | x + 1 => prs n l x ++ (rpL n l x 8).map fun p => [(x : Int), p]
theorem prs_mem (n : Int) (l : List Ed) (z : List Int) : ∀ x, z ∈ prs n l x ↔ ∃ i p, i < x ∧ p ∈ rpL n l (i : Nat) 8 ∧ z = [(i : Int), p]
  | 0 => by simp [prs]
  | x + 1 => by
    simp only [prs, List.mem_append, prs_mem n l z x, List.mem_map]
    constructor
    · rintro (⟨i, p, h1, h2, h3⟩ | ⟨p, h1, h2⟩)
      · exact ⟨i, p, by omega, h2, h3⟩
      · exact ⟨x, p, by omega, h1, h2.symm⟩
    · rintro ⟨i, p, h1, h2, h3⟩
      rcases Nat.lt_or_ge i x with h | h
      · exact .inl ⟨i, p, h, h2, h3⟩
      · obtain rfl : i = x := by omega
        exact .inr ⟨p, h2, h3.symm⟩
theorem rpL_nodup (n : Int) (l : List Ed) (a : Int) : (rpL n l a 8).Nodup := by
  unfold rpL
  exact List.Pairwise.filter _ (by decide)
theorem prs_nodup (n : Int) (l : List Ed) : ∀ x, (prs n l x).Nodup
  | 0 => by simp [prs]
  | x + 1 => by
    simp only [prs]
    rw [List.nodup_append]
    refine ⟨prs_nodup n l x, ?_, ?_⟩
    · have := rpL_nodup n l x
      unfold List.Nodup at this ⊢
      rw [List.pairwise_map]
      exact this.imp (fun h q => h (by simpa using q))
    · intro a ha b hb hab
      subst hab
      rw [prs_mem] at ha
      obtain ⟨i, p, h1, _, h3⟩ := ha
      rw [List.mem_map] at hb
      obtain ⟨q, _, h4⟩ := hb
      rw [h3] at h4
      simp at h4; omega
theorem ends_len : ∀ l : List Ed, (endsL l).length = 2 * l.length
  | [] => rfl
  | e :: r => by simp [endsL, ends_len r]; omega
theorem hasB_of {n : Int} {l : List Ed} (h : ckC n l = 0) {a : Int} (h0 : 0 ≤ a) (h1 : a < n) : hasB n l a = true := decide_eq_true ⟨h, h0, h1⟩
theorem ckC_parts {n : Int} {l : List Ed} (h : ckC n l = 0) : (1 ≤ n ∧ n ≤ 24) ∧ l.length ≤ 64 ∧ ∀ e ∈ l, endB n e.a e.pa = true ∧ endB n e.b e.pb = true := by
  unfold ckC at h
  split at h
  · cases h
  · split at h
    · cases h
    · exact ⟨by omega, by omega, ckL_ends n l _ h⟩
theorem peerF_of {n : Int} {l : List Ed} (h : ckC n l = 0) {a : Int} (h0 : 0 ≤ a) (h1 : a < n) (p : Int) : peerF n l a p = peerL l a p := by
  unfold peerF; rw [if_pos (hasB_of h h0 h1)]
theorem prs_len {n : Int} {l : List Ed} (h : ckC n l = 0) : (prs n l n.toNat).length = 2 * l.length := by
  obtain ⟨h1, h2, h3⟩ := ckC_parts h
  rw [← ends_len]
  refine List.Perm.length_eq ((List.perm_ext_iff_of_nodup (prs_nodup ..) (ckC_nodup h)).2 fun z => ?_)
  rw [prs_mem, mem_ends]
  constructor
  · rintro ⟨i, p, q1, q2, rfl⟩
    rw [rpL_mem, peerF_of h (by omega) (by omega), peerL_ok] at q2
    obtain ⟨_, e, he, ⟨r1, r2⟩ | ⟨r1, r2⟩⟩ := q2
    · exact ⟨e, he, .inl (by rw [r1, r2])⟩
    · exact ⟨e, he, .inr (by rw [r1, r2])⟩
  · rintro ⟨e, he, rfl | rfl⟩
    · have q := (h3 e he).1
      simp only [endB, decide_eq_true_eq] at q
      refine ⟨e.a.toNat, e.pa, by omega, ?_, by simp; omega⟩
      rw [show ((e.a.toNat : Nat) : Int) = e.a by omega, rpL_mem, peerF_of h q.1 q.2.1, peerL_ok]
      exact ⟨⟨q.2.2.1, q.2.2.2⟩, e, he, .inl ⟨rfl, rfl⟩⟩
    · have q := (h3 e he).2
      simp only [endB, decide_eq_true_eq] at q
      refine ⟨e.b.toNat, e.pb, by omega, ?_, by simp; omega⟩
      rw [show ((e.b.toNat : Nat) : Int) = e.b by omega, rpL_mem, peerF_of h q.1 q.2.1, peerL_ok]
      exact ⟨⟨q.2.2.1, q.2.2.2⟩, e, he, .inr ⟨rfl, rfl⟩⟩
theorem ok_range {n : Int} {l : List Ed} (h : ckC n l = 0) {a p : Int} (hk : (peerL l a p).2.2 = true) : 1 ≤ p ∧ p ≤ 8 := by
  obtain ⟨_, _, h3⟩ := ckC_parts h
  obtain ⟨e, he, ⟨rfl, rfl⟩ | ⟨rfl, rfl⟩⟩ := (peerL_ok a p l).1 hk
  · have q := (h3 e he).1
    simp only [endB, decide_eq_true_eq] at q; exact ⟨q.2.2.1, q.2.2.2⟩
  · have q := (h3 e he).2
    simp only [endB, decide_eq_true_eq] at q; exact ⟨q.2.2.1, q.2.2.2⟩
end Go.Vx.L18
