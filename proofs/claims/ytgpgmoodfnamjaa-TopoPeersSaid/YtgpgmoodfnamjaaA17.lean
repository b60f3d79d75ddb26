/- Lemmas of a small executor for the model, and contracts of functions, used for the law that this claim proves. No condition. -/
import Derived.Test.YtgpgmoodfnamjaaP19
import Derived.Test.YtgpgmoodfnamjaaA16
set_option linter.unusedSimpArgs false
set_option linter.unusedVariables false
set_option maxRecDepth 100000
namespace Go.Vx.L18
open Go Go.Proofs
theorem rpL_mono (n : Int) (l : List Ed) (a : Int) (i j : Nat) (hij : i ≤ j) (hj : j < (rpL n l a 8).length) : (rpL n l a 8).getD i 0 ≤ (rpL n l a 8).getD j 0 := by
  have hsorted : (rpL n l a 8).Pairwise (fun x y => x < y) := by
    unfold rpL
    exact List.Pairwise.filter _ (by decide)
  rw [List.pairwise_iff_getElem] at hsorted
  simp only [List.getD_eq_getElem?_getD, List.getElem?_eq_getElem (show i < (rpL n l a 8).length by omega), List.getElem?_eq_getElem hj, Option.getD_some]
  rcases Nat.lt_or_ge i j with h | h
  · exact Int.le_of_lt (hsorted i j (by omega) hj h)
  · obtain rfl : i = j := by omega
    exact Int.le_refl _
def mny (n : Int) (l : List Ed) (x k : Nat) : Nat := (prs n l x).length + (rpL n l x (k - 1)).length
theorem peer_back {n : Int} {l : List Ed} (h : ckC n l = 0) {a p : Int} (h0 : 0 ≤ a) (h1 : a < n) (hk : (peerF n l a p).2.2 = true) :
    peerF n l (peerF n l a p).1 (peerF n l a p).2.1 = (a, p, true) ∧ (peerF n l a p).1 ≠ a := by
  rw [peerF_of h h0 h1] at hk ⊢
  obtain ⟨_, _, h3⟩ := ckC_parts h
  have hne : ∀ e ∈ l, e.a ≠ e.b := fun e he q => by
    have hn := ckC_nodup h
    have key : ∀ (l : List Ed) (seen : List (List Int)), ckL n l seen = 0 → ∀ e ∈ l, e.a ≠ e.b := by
      intro l
      induction l with
      | nil => intro _ _ e he; cases he
      | cons x r ih =>
        intro seen hz e he
        unfold ckL at hz
        split at hz
        · cases hz
        · split at hz
          · cases hz
          · rename_i hab
            split at hz
            · cases hz
            · rcases List.mem_cons.1 he with rfl | he
              · exact hab
              · exact ih _ hz e he
    have hz : ckL n l [] = 0 := by
      unfold ckC at h
      split at h
      · cases h
      · split at h
        · cases h
        · exact h
    exact key l [] hz e he q
  obtain ⟨e, he, ⟨rfl, rfl⟩ | ⟨rfl, rfl⟩⟩ := (peerL_ok a p l).1 hk
  · obtain ⟨p1, p2⟩ := peer_both l (ckC_nodup h) e he
    have q := (h3 e he).2
    simp only [endB, decide_eq_true_eq] at q
    rw [p1]
    simp only
    rw [peerF_of h q.1 q.2.1, p2]
    exact ⟨rfl, fun z => hne e he z.symm⟩
  · obtain ⟨p1, p2⟩ := peer_both l (ckC_nodup h) e he
    have q := (h3 e he).1
    simp only [endB, decide_eq_true_eq] at q
    rw [p2]
    simp only
    rw [peerF_of h q.1 q.2.1, p1]
    exact ⟨rfl, hne e he⟩
theorem ok_mem {n : Int} {l : List Ed} (h : ckC n l = 0) {a : Int} (h0 : 0 ≤ a) (h1 : a < n) (p : Int) : decide (p ∈ rpL n l a 8) = (peerF n l a p).2.2 := by
  rw [Bool.eq_iff_iff, decide_eq_true_eq, rpL_mem]
  constructor
  · exact fun q => q.2
  · intro q; refine ⟨?_, q⟩; rw [peerF_of h h0 h1] at q; exact ok_range h q
theorem mny_step {n : Int} {l : List Ed} (h : ckC n l = 0) {x : Nat} (h1 : (x : Int) < n) (k : Nat) : mny n l x (k + 1) = mny n l x k + (if (peerF n l x (k : Int)).2.2 = true then 1 else 0) := by
  unfold mny
  rcases k with _ | k
  · have : (peerF n l x ((0 : Nat) : Int)).2.2 ≠ true := fun q => by
      rw [peerF_of h (by omega) h1] at q
      have := ok_range h q; omega
    rw [if_neg this]; rfl
  · rw [show k + 1 + 1 - 1 = k + 1 by omega, rpL_succ, show k + 1 - 1 = k by omega, List.length_append]
    push_cast
    split <;> simp <;> omega
theorem mny_next {n : Int} {l : List Ed} (h : ckC n l = 0) {x : Nat} (h1 : (x : Int) < n) : mny n l x 10 = mny n l (x + 1) 0 := by
  have : (peerF n l x ((8 : Nat) + 1 : Int)).2.2 ≠ true := fun q => by
    rw [peerF_of h (by omega) h1] at q
    have := ok_range h q; omega
  unfold mny
  rw [show 10 - 1 = 8 + 1 by rfl, rpL_succ, if_neg this, List.append_nil]
  simp [prs, rpL]
theorem mny_le (n : Int) (l : List Ed) (x k : Nat) (hx : x ≤ 24) (hk : k ≤ 10) : mny n l x k ≤ 1000 := by
  have a : ∀ y, (prs n l y).length ≤ y * 8 := fun y => by
    induction y with
    | zero => simp [prs]
    | succ y ih =>
      have := rpL_len n l y 8
      simp only [prs, List.length_append, List.length_map]; omega
  have b := rpL_len n l x (k - 1)
  have c := a x
  unfold mny; omega
end Go.Vx.L18
