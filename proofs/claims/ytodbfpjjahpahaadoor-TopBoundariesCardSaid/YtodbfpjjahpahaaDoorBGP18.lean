/- Lemmas of a small executor for the model, and contracts of functions, used for the law that this claim proves. No condition. -/
import Derived.Test.YtodbfpjjahpahaaDoorBGA
import Derived.Test.YtodbfpjjahpahaaDoorBGBA
set_option linter.unusedSimpArgs false
set_option linter.unusedVariables false
set_option maxRecDepth 100000
namespace Go.Vx.L42
open Go Go.Proofs
theorem b3y (n : Int) : ∀ (l : List Ed) (seen : List (List Int)), ckL n l seen = 0 -> (a3p l).Nodup /\ ∀ x ∈ a3p l, x ∉ seen
 | [], _, _ => ⟨by simp [a3p], by simp [a3p]⟩
 | e :: r, seen, h => by
  unfold ckL at h
  split at h
  ·cases h
  ·split at h
   ·cases h
   ·rename_i hab
    split at h
    ·cases h
    ·rename_i hs
     obtain ⟨h1, h2⟩ := b3y n r _ h
     simp only [Bool.or_eq_true, List.contains_iff_mem, not_or] at hs
     have h3 : [e.a, e.pa] ∉ a3p r := fun q => h2 _ q (by simp)
     have h4 : [e.b, e.pb] ∉ a3p r := fun q => h2 _ q (by simp)
     refine ⟨?_, ?_⟩
     ·simp only [a3p, List.nodup_cons, List.mem_cons, not_or]
      refine ⟨⟨fun q => ?_, h3⟩, h4, h1⟩
      simp at q; exact hab q.1
     ·intro x hx
      simp only [a3p, List.mem_cons] at hx
      rcases hx with rfl | rfl | hx
      ·exact hs.1
      ·exact hs.2
      ·intro q; exact h2 x hx (by simp [q])
theorem a5m {n : Int} {l : List Ed} (h : ckC n l = 0) : (a3p l).Nodup := by
 unfold ckC at h
 split at h
 ·cases h
 ·split at h
  ·cases h
  ·exact (b3y n l [] h).1
theorem a5k : ∀ (l : List Ed), (a3p l).Nodup -> ∀ e ∈ l, a4a l e.a e.pa = (e.b, e.pb, true) /\ a4a l e.b e.pb = (e.a, e.pa, true)
 | [], _, e, he => by cases he
 | x :: r, h, e, he => by
  simp only [a3p, List.nodup_cons, List.mem_cons, not_or] at h
  obtain ⟨⟨h0, h1⟩, h2, h3⟩ := h
  rcases List.mem_cons.1 he with rfl | he
  ·refine ⟨by simp [a4a], ?_⟩
   unfold a4a
   rw [if_neg (fun q => h0 (by rw [q.1, q.2])), if_pos ⟨rfl, rfl⟩]
  ·obtain ⟨i1, i2⟩ := a5k r h3 e he
   have m1 : [e.a, e.pa] ∈ a3p r := (b6l _ _).2 ⟨e, he, .inl rfl⟩
   have m2 : [e.b, e.pb] ∈ a3p r := (b6l _ _).2 ⟨e, he, .inr rfl⟩
   constructor
   ·unfold a4a
    rw [if_neg (fun q => h1 (by rw [q.1, q.2]; exact m1)), if_neg (fun q => h2 (by rw [q.1, q.2]; exact m1))]
    exact i1
   ·unfold a4a
    rw [if_neg (fun q => h1 (by rw [q.1, q.2]; exact m2)), if_neg (fun q => h2 (by rw [q.1, q.2]; exact m2))]
    exact i2
theorem b4k {n : Int} {l : List Ed} (h : ckC n l = 0) {a : Int} (h0 : 0 <= a) (h1 : a < n) : hasB n l a = true := decide_eq_true ⟨h, h0, h1⟩
theorem a65 {n : Int} {l : List Ed} (h : ckC n l = 0) : (1 <= n /\ n <= 24) /\ l.length <= 64 /\ ∀ e ∈ l, b1c n e.a e.pa = true /\ b1c n e.b e.pb = true := by
 unfold ckC at h
 split at h
 ·cases h
 ·split at h
  ·cases h
  ·exact ⟨by omega, by omega, b1z n l _ h⟩
theorem a4j {n : Int} {l : List Ed} (h : ckC n l = 0) {a : Int} (h0 : 0 <= a) (h1 : a < n) (p : Int) : a1r n l a p = a4a l a p := by
 unfold a1r; rw [if_pos (b4k h h0 h1)]
theorem b6h {n : Int} {l : List Ed} (h : ckC n l = 0) {a p : Int} (hk : (a4a l a p).2.2 = true) : 1 <= p /\ p <= 8 := by
 obtain ⟨_, _, h3⟩ := a65 h
 obtain ⟨e, he, ⟨rfl, rfl⟩ | ⟨rfl, rfl⟩⟩ := (a7s a p l).1 hk
 ·have q := (h3 e he).1
  simp only [b1c, decide_eq_true_eq] at q; exact ⟨q.2.2.1, q.2.2.2⟩
 ·have q := (h3 e he).2
  simp only [b1c, decide_eq_true_eq] at q; exact ⟨q.2.2.1, q.2.2.2⟩
theorem b82 {n : Int} {l : List Ed} (h : ckC n l = 0) {a p : Int} (h0 : 0 <= a) (h1 : a < n) (hk : (a1r n l a p).2.2 = true) :
  a1r n l (a1r n l a p).1 (a1r n l a p).2.1 = (a, p, true) /\ (a1r n l a p).1 ≠ a := by
 rw [a4j h h0 h1] at hk ⊢
 obtain ⟨_, _, h3⟩ := a65 h
 have hne : ∀ e ∈ l, e.a ≠ e.b := fun e he q => by
  have hn := a5m h
  have key : ∀ (l : List Ed) (seen : List (List Int)), ckL n l seen = 0 -> ∀ e ∈ l, e.a ≠ e.b := by
   intro l
   induction l with
   | nil => intro _ _ e he; cases he
   | cons x r ih =>
    intro seen hz e he
    unfold ckL at hz
    split at hz
    ·cases hz
    ·split at hz
     ·cases hz
     ·rename_i hab
      split at hz
      ·cases hz
      ·rcases List.mem_cons.1 he with rfl | he
       ·exact hab
       ·exact ih _ hz e he
  have hz : ckL n l [] = 0 := by
   unfold ckC at h
   split at h
   ·cases h
   ·split at h
    ·cases h
    ·exact h
  exact key l [] hz e he q
 obtain ⟨e, he, ⟨rfl, rfl⟩ | ⟨rfl, rfl⟩⟩ := (a7s a p l).1 hk
 ·obtain ⟨p1, p2⟩ := a5k l (a5m h) e he
  have q := (h3 e he).2
  simp only [b1c, decide_eq_true_eq] at q
  rw [p1]
  simp only
  rw [a4j h q.1 q.2.1, p2]
  exact ⟨rfl, fun z => hne e he z.symm⟩
 ·obtain ⟨p1, p2⟩ := a5k l (a5m h) e he
  have q := (h3 e he).1
  simp only [b1c, decide_eq_true_eq] at q
  rw [p2]
  simp only
  rw [a4j h q.1 q.2.1, p1]
  exact ⟨rfl, hne e he⟩
end Go.Vx.L42
