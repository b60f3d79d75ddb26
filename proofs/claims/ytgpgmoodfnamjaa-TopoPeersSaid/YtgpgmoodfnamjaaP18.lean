/- Lemmas of a small executor for the model, and contracts of functions, used for the law that this claim proves. No condition. -/
import Derived.Test.YtgpgmoodfnamjaaA13
set_option linter.unusedSimpArgs false
set_option linter.unusedVariables false
set_option maxRecDepth 100000
namespace Go.Vx.L18
open Go Go.Proofs
theorem ckL_nodup (n : Int) : ∀ (l : List Ed) (seen : List (List Int)), ckL n l seen = 0 → (endsL l).Nodup ∧ ∀ x ∈ endsL l, x ∉ seen
  | [], _, _ => ⟨by simp [endsL], by simp [endsL]⟩
  | e :: r, seen, h => by
    unfold ckL at h
    split at h
    · cases h
    · split at h
      · cases h
      · rename_i hab
        split at h
        · cases h
        · rename_i hs
          obtain ⟨h1, h2⟩ := ckL_nodup n r _ h
          simp only [Bool.or_eq_true, List.contains_iff_mem, not_or] at hs
          have h3 : [e.a, e.pa] ∉ endsL r := fun q => h2 _ q (by simp)
          have h4 : [e.b, e.pb] ∉ endsL r := fun q => h2 _ q (by simp)
          refine ⟨?_, ?_⟩
          · simp only [endsL, List.nodup_cons, List.mem_cons, not_or]
            refine ⟨⟨fun q => ?_, h3⟩, h4, h1⟩
            simp at q; exact hab q.1
          · intro x hx
            simp only [endsL, List.mem_cons] at hx
            rcases hx with rfl | rfl | hx
            · exact hs.1
            · exact hs.2
            · intro q; exact h2 x hx (by simp [q])
theorem ckC_nodup {n : Int} {l : List Ed} (h : ckC n l = 0) : (endsL l).Nodup := by
  unfold ckC at h
  split at h
  · cases h
  · split at h
    · cases h
    · exact (ckL_nodup n l [] h).1
theorem peer_both : ∀ (l : List Ed), (endsL l).Nodup → ∀ e ∈ l, peerL l e.a e.pa = (e.b, e.pb, true) ∧ peerL l e.b e.pb = (e.a, e.pa, true)
  | [], _, e, he => by cases he
  | x :: r, h, e, he => by
    simp only [endsL, List.nodup_cons, List.mem_cons, not_or] at h
    obtain ⟨⟨h0, h1⟩, h2, h3⟩ := h
    rcases List.mem_cons.1 he with rfl | he
    · refine ⟨by simp [peerL], ?_⟩
      unfold peerL
      rw [if_neg (fun q => h0 (by rw [q.1, q.2])), if_pos ⟨rfl, rfl⟩]
    · obtain ⟨i1, i2⟩ := peer_both r h3 e he
      have m1 : [e.a, e.pa] ∈ endsL r := (mem_ends _ _).2 ⟨e, he, .inl rfl⟩
      have m2 : [e.b, e.pb] ∈ endsL r := (mem_ends _ _).2 ⟨e, he, .inr rfl⟩
      constructor
      · unfold peerL
        rw [if_neg (fun q => h1 (by rw [q.1, q.2]; exact m1)), if_neg (fun q => h2 (by rw [q.1, q.2]; exact m1))]
        exact i1
      · unfold peerL
        rw [if_neg (fun q => h1 (by rw [q.1, q.2]; exact m2)), if_neg (fun q => h2 (by rw [q.1, q.2]; exact m2))]
        exact i2
end Go.Vx.L18
