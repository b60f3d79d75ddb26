/- Lemmas of a small executor for the model, and contracts of functions, used for the law that this claim proves. No condition. -/
import Derived.Test.YtodbfpjjahpahaaGreatDoorDGA
import Derived.Test.YtodbfpjjahpahaaGreatDoorDGB5
set_option linter.unusedSimpArgs false
set_option linter.unusedVariables false
set_option maxRecDepth 100000
namespace Go.Vx.L58
open Go Go.Proofs
theorem ckL_nodup (n : Int) : ∀ (l : List Ed) (seen : List (List Int)), ckL n l seen = 0 → (endsL l).Nodup ∧ ∀ x ∈ endsL l, x ∉ seen
 | [], _, _ => ⟨by simp [endsL], by simp [endsL]⟩
 | e :: r, seen, h => by
  unfold ckL at h
  split at h
  ·cases h
  ·split at h
   ·cases h
   ·rename_i hab
    split at h
    ·cases h
    ·rename_i hs
     obtain ⟨h1, h2⟩ := ckL_nodup n r _ h
     simp only [Bool.or_eq_true, List.contains_iff_mem, not_or] at hs
     have h3 : [e.a, e.pa] ∉ endsL r := fun q => h2 _ q (by simp)
     have h4 : [e.b, e.pb] ∉ endsL r := fun q => h2 _ q (by simp)
     refine ⟨?_, ?_⟩
     ·simp only [endsL, List.nodup_cons, List.mem_cons, not_or]
      refine ⟨⟨fun q => ?_, h3⟩, h4, h1⟩
      simp at q; exact hab q.1
     ·intro x hx
      simp only [endsL, List.mem_cons] at hx
      rcases hx with rfl | rfl | hx
      ·exact hs.1
      ·exact hs.2
      ·intro q; exact h2 x hx (by simp [q])
theorem ckC_nodup {n : Int} {l : List Ed} (h : ckC n l = 0) : (endsL l).Nodup := by
 unfold ckC at h
 split at h
 ·cases h
 ·split at h
  ·cases h
  ·exact (ckL_nodup n l [] h).1
theorem peer_both : ∀ (l : List Ed), (endsL l).Nodup → ∀ e ∈ l, peerL l e.a e.pa = (e.b, e.pb, true) ∧ peerL l e.b e.pb = (e.a, e.pa, true)
 | [], _, e, he => by cases he
 | x :: r, h, e, he => by
  simp only [endsL, List.nodup_cons, List.mem_cons, not_or] at h
  obtain ⟨⟨h0, h1⟩, h2, h3⟩ := h
  rcases List.mem_cons.1 he with rfl | he
  ·refine ⟨by simp [peerL], ?_⟩
   unfold peerL
   rw [if_neg (fun q => h0 (by rw [q.1, q.2])), if_pos ⟨rfl, rfl⟩]
  ·obtain ⟨i1, i2⟩ := peer_both r h3 e he
   have m1 : [e.a, e.pa] ∈ endsL r := (mem_ends _ _).2 ⟨e, he, .inl rfl⟩
   have m2 : [e.b, e.pb] ∈ endsL r := (mem_ends _ _).2 ⟨e, he, .inr rfl⟩
   constructor
   ·unfold peerL
    rw [if_neg (fun q => h1 (by rw [q.1, q.2]; exact m1)), if_neg (fun q => h2 (by rw [q.1, q.2]; exact m1))]
    exact i1
   ·unfold peerL
    rw [if_neg (fun q => h1 (by rw [q.1, q.2]; exact m2)), if_neg (fun q => h2 (by rw [q.1, q.2]; exact m2))]
    exact i2
theorem rpL_nodup (n : Int) (l : List Ed) (a : Int) : (rpL n l a 8).Nodup := by
 unfold rpL
 exact List.Pairwise.filter _ (by decide)
theorem hasB_of {n : Int} {l : List Ed} (h : ckC n l = 0) {a : Int} (h0 : 0 ≤ a) (h1 : a < n) : hasB n l a = true := decide_eq_true ⟨h, h0, h1⟩
theorem ckC_partsB {n : Int} {l : List Ed} (h : ckC n l = 0) : (1 ≤ n ∧ n ≤ 24) ∧ l.length ≤ 64 ∧ ∀ e ∈ l, endB n e.a e.pa = true ∧ endB n e.b e.pb = true := by
 unfold ckC at h
 split at h
 ·cases h
 ·split at h
  ·cases h
  ·exact ⟨by omega, by omega, ckL_ends n l _ h⟩
theorem peerF_of {n : Int} {l : List Ed} (h : ckC n l = 0) {a : Int} (h0 : 0 ≤ a) (h1 : a < n) (p : Int) : peerF n l a p = peerL l a p := by
 unfold peerF; rw [if_pos (hasB_of h h0 h1)]
theorem ok_range {n : Int} {l : List Ed} (h : ckC n l = 0) {a p : Int} (hk : (peerL l a p).2.2 = true) : 1 ≤ p ∧ p ≤ 8 := by
 obtain ⟨_, _, h3⟩ := ckC_partsB h
 obtain ⟨e, he, ⟨rfl, rfl⟩ | ⟨rfl, rfl⟩⟩ := (peerL_ok a p l).1 hk
 ·have q := (h3 e he).1
  simp only [endB, decide_eq_true_eq] at q; exact ⟨q.2.2.1, q.2.2.2⟩
 ·have q := (h3 e he).2
  simp only [endB, decide_eq_true_eq] at q; exact ⟨q.2.2.1, q.2.2.2⟩
theorem peer_back {n : Int} {l : List Ed} (h : ckC n l = 0) {a p : Int} (h0 : 0 ≤ a) (h1 : a < n) (hk : (peerF n l a p).2.2 = true) :
  peerF n l (peerF n l a p).1 (peerF n l a p).2.1 = (a, p, true) ∧ (peerF n l a p).1 ≠ a := by
 rw [peerF_of h h0 h1] at hk ⊢
 obtain ⟨_, _, h3⟩ := ckC_partsB h
 have hne : ∀ e ∈ l, e.a ≠ e.b := fun e he q => by
  have hn := ckC_nodup h
  have key : ∀ (l : List Ed) (seen : List (List Int)), ckL n l seen = 0 → ∀ e ∈ l, e.a ≠ e.b := by
   intro l
   induction l with
   | nil => intro _ _ e he; cases he
   | cons x r ih =>
    intro seen hz e he
    unfold ckL at hz
    split at hz
    ·cases hz
    ·split at hz
     ·cases hz
     ·rename_i hab
      split at hz
      ·cases hz
      ·rcases List.mem_cons.1 he with rfl | he
       ·exact hab
       ·exact ih _ hz e he
  have hz : ckL n l [] = 0 := by
   unfold ckC at h
   split at h
   ·cases h
   ·split at h
    ·cases h
    ·exact h
  exact key l [] hz e he q
 obtain ⟨e, he, ⟨rfl, rfl⟩ | ⟨rfl, rfl⟩⟩ := (peerL_ok a p l).1 hk
 ·obtain ⟨p1, p2⟩ := peer_both l (ckC_nodup h) e he
  have q := (h3 e he).2
  simp only [endB, decide_eq_true_eq] at q
  rw [p1]
  simp only
  rw [peerF_of h q.1 q.2.1, p2]
  exact ⟨rfl, fun z => hne e he z.symm⟩
 ·obtain ⟨p1, p2⟩ := peer_both l (ckC_nodup h) e he
  have q := (h3 e he).1
  simp only [endB, decide_eq_true_eq] at q
  rw [p2]
  simp only
  rw [peerF_of h q.1 q.2.1, p1]
  exact ⟨rfl, hne e he⟩
end Go.Vx.L58
