/- Lemmas of a small executor for the model, and contracts of functions, used for the law that this claim proves. No condition. -/
import Derived.Test.YtodbfpjjahpahaaGreatDoorEGA
import Derived.Test.YtodbfpjjahpahaaGreatDoorEGBA
set_option linter.unusedSimpArgs false
set_option linter.unusedVariables false
set_option maxRecDepth 100000
namespace Go.Vx.L58
open Go Go.Proofs
theorem b4c (n : Int) : ∀ (l : List Ed) (seen : List (List Int)), ckL n l seen = 0 -> (a2b l).Nodup /\ ∀ x ∈ a2b l, x ∉ seen
 | [], _, _ => ⟨by simp [a2b], by simp [a2b]⟩
 | e :: r, seen, h => by
  unfold ckL at h
  split at h
  ·cases h
  ·split at h
   ·cases h
   ·rename_i hab
    split at h
    ·cases h
    ·rename_i hs
     obtain ⟨h1, h2⟩ := b4c n r _ h
     simp only [Bool.or_eq_true, List.contains_iff_mem, not_or] at hs
     have h3 : [e.a, e.pa] ∉ a2b r := fun q => h2 _ q (by simp)
     have h4 : [e.b, e.pb] ∉ a2b r := fun q => h2 _ q (by simp)
     refine ⟨?_, ?_⟩
     ·simp only [a2b, List.nodup_cons, List.mem_cons, not_or]
      refine ⟨⟨fun q => ?_, h3⟩, h4, h1⟩
      simp at q; exact hab q.1
     ·intro x hx
      simp only [a2b, List.mem_cons] at hx
      rcases hx with rfl | rfl | hx
      ·exact hs.1
      ·exact hs.2
      ·intro q; exact h2 x hx (by simp [q])
theorem a45 {n : Int} {l : List Ed} (h : ckC n l = 0) : (a2b l).Nodup := by
 unfold ckC at h
 split at h
 ·cases h
 ·split at h
  ·cases h
  ·exact (b4c n l [] h).1
theorem a42 : ∀ (l : List Ed), (a2b l).Nodup -> ∀ e ∈ l, a2d l e.a e.pa = (e.b, e.pb, true) /\ a2d l e.b e.pb = (e.a, e.pa, true)
 | [], _, e, he => by cases he
 | x :: r, h, e, he => by
  simp only [a2b, List.nodup_cons, List.mem_cons, not_or] at h
  obtain ⟨⟨h0, h1⟩, h2, h3⟩ := h
  rcases List.mem_cons.1 he with rfl | he
  ·refine ⟨by simp [a2d], ?_⟩
   unfold a2d
   rw [if_neg (fun q => h0 (by rw [q.1, q.2])), if_pos ⟨rfl, rfl⟩]
  ·obtain ⟨i1, i2⟩ := a42 r h3 e he
   have m1 : [e.a, e.pa] ∈ a2b r := (b3k _ _).2 ⟨e, he, .inl rfl⟩
   have m2 : [e.b, e.pb] ∈ a2b r := (b3k _ _).2 ⟨e, he, .inr rfl⟩
   constructor
   ·unfold a2d
    rw [if_neg (fun q => h1 (by rw [q.1, q.2]; exact m1)), if_neg (fun q => h2 (by rw [q.1, q.2]; exact m1))]
    exact i1
   ·unfold a2d
    rw [if_neg (fun q => h1 (by rw [q.1, q.2]; exact m2)), if_neg (fun q => h2 (by rw [q.1, q.2]; exact m2))]
    exact i2
theorem c1s (n : Int) (l : List Ed) (a : Int) : (rpL n l a 8).Nodup := by
 unfold rpL
 exact List.Pairwise.filter _ (by decide)
theorem c47 {n : Int} {l : List Ed} (h : ckC n l = 0) {a : Int} (h0 : 0 <= a) (h1 : a < n) : hasB n l a = true := decide_eq_true ⟨h, h0, h1⟩
theorem a6m {n : Int} {l : List Ed} (h : ckC n l = 0) : (1 <= n /\ n <= 24) /\ l.length <= 64 /\ ∀ e ∈ l, a6r n e.a e.pa = true /\ a6r n e.b e.pb = true := by
 unfold ckC at h
 split at h
 ·cases h
 ·split at h
  ·cases h
  ·exact ⟨by omega, by omega, b2a n l _ h⟩
theorem a3a {n : Int} {l : List Ed} (h : ckC n l = 0) {a : Int} (h0 : 0 <= a) (h1 : a < n) (p : Int) : a1h n l a p = a2d l a p := by
 unfold a1h; rw [if_pos (c47 h h0 h1)]
theorem b7p {n : Int} {l : List Ed} (h : ckC n l = 0) {a p : Int} (hk : (a2d l a p).2.2 = true) : 1 <= p /\ p <= 8 := by
 obtain ⟨_, _, h3⟩ := a6m h
 obtain ⟨e, he, ⟨rfl, rfl⟩ | ⟨rfl, rfl⟩⟩ := (a7q a p l).1 hk
 ·have q := (h3 e he).1
  simp only [a6r, decide_eq_true_eq] at q; exact ⟨q.2.2.1, q.2.2.2⟩
 ·have q := (h3 e he).2
  simp only [a6r, decide_eq_true_eq] at q; exact ⟨q.2.2.1, q.2.2.2⟩
theorem c0x {n : Int} {l : List Ed} (h : ckC n l = 0) {a p : Int} (h0 : 0 <= a) (h1 : a < n) (hk : (a1h n l a p).2.2 = true) :
  a1h n l (a1h n l a p).1 (a1h n l a p).2.1 = (a, p, true) /\ (a1h n l a p).1 ≠ a := by
 rw [a3a h h0 h1] at hk ⊢
 obtain ⟨_, _, h3⟩ := a6m h
 have hne : ∀ e ∈ l, e.a ≠ e.b := fun e he q => by
  have hn := a45 h
  have key : ∀ (l : List Ed) (seen : List (List Int)), ckL n l seen = 0 -> ∀ e ∈ l, e.a ≠ e.b := by
   intro l
   induction l with
   | nil => intro _ _ e he; cases he
   | cons x r ih =>
    intro seen hz e he
    unfold ckL at hz
    split at hz
    ·cases hz
    ·split at hz
     ·cases hz
     ·rename_i hab
      split at hz
      ·cases hz
      ·rcases List.mem_cons.1 he with rfl | he
       ·exact hab
       ·exact ih _ hz e he
  have hz : ckL n l [] = 0 := by
   unfold ckC at h
   split at h
   ·cases h
   ·split at h
    ·cases h
    ·exact h
  exact key l [] hz e he q
 obtain ⟨e, he, ⟨rfl, rfl⟩ | ⟨rfl, rfl⟩⟩ := (a7q a p l).1 hk
 ·obtain ⟨p1, p2⟩ := a42 l (a45 h) e he
  have q := (h3 e he).2
  simp only [a6r, decide_eq_true_eq] at q
  rw [p1]
  simp only
  rw [a3a h q.1 q.2.1, p2]
  exact ⟨rfl, fun z => hne e he z.symm⟩
 ·obtain ⟨p1, p2⟩ := a42 l (a45 h) e he
  have q := (h3 e he).1
  simp only [a6r, decide_eq_true_eq] at q
  rw [p2]
  simp only
  rw [a3a h q.1 q.2.1, p1]
  exact ⟨rfl, hne e he⟩
end Go.Vx.L58
