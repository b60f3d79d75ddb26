/- Lemmas of a small executor for the model, and contracts of functions, used for the law that this claim proves. No condition. -/
import Derived.Test.YtafojofaegmbnaaCF24
set_option linter.unusedSimpArgs false
set_option linter.unusedVariables false
set_option maxRecDepth 100000
namespace Go.Vx.L55
open Go Go.Proofs
theorem cntB_take (ws : List Bool) (m : Nat) (l : List Int) : cntB (ws.take m) m l = cntB ws m l := by
  unfold cntB
  congr 1
  funext s
  unfold badB
  by_cases h1 : s < 0
  · simp [h1]
  · by_cases h2 : (m : Int) ≤ s
    · simp [h2]
    · have : (ws.take m).getD s.toNat false = ws.getD s.toNat false := by
        simp only [List.getD_eq_getElem?_getD]
        rw [List.getElem?_take_of_lt (by omega)]
      rw [this]
theorem dbt_take (ws : List Bool) (m : Nat) (l : List Int) : dbt l (ws.take m) m = dbt l ws m := by unfold dbt; rw [cntB_take]
theorem getD_take (ws : List Bool) {m i : Nat} (h : i < m) : (ws.take m).getD i false = ws.getD i false := by
  simp only [List.getD_eq_getElem?_getD]
  rw [List.getElem?_take_of_lt h]
theorem pU_take (rw : Nat → List Int) (m : Nat) (ws : List Bool) : ∀ k, k ≤ m → (pU rw m (ws.take m) k).1 = (pU rw m ws k).1.take m
  | 0, _ => rfl
  | k + 1, h => by
    have ih := pU_take rw m ws k (by omega)
    unfold pU stU
    rw [ih, dbt_take, getD_take _ (show k < m by omega)]
    split
    · simp only; rw [List.take_set]
    · exact ih
theorem itU_take (rw : Nat → List Int) (m K : Nat) (hK : K ≤ m) (ws : List Bool) : ∀ j, itU rw m K (ws.take m) j = (itU rw m K ws j).take m
  | 0 => rfl
  | j + 1 => by
    unfold itU
    rw [itU_take rw m K hK ws j, pU_take rw m _ K hK]
/-- As many passes as there are nodes suffice. -/
theorem itU_n (rw : Nat → List Int) (m K : Nat) (hK : K ≤ m) (ws : List Bool) (hw : ws.length = m) (hm : m ≤ 24) : itU rw m K ws 24 = itU rw m K ws m := by
  have key : ∀ j, (∃ i, i < j ∧ itU rw m K ws (i + 1) = itU rw m K ws i) ∨ j ≤ cT (itU rw m K ws j) := by
    intro j
    induction j with
    | zero => exact .inr (Nat.zero_le _)
    | succ j ih =>
      rcases ih with ⟨i, h1, h2⟩ | h
      · exact .inl ⟨i, by omega, h2⟩
      · obtain ⟨q1, q2, q3⟩ := pU_ch rw m (itU rw m K ws j) K (by rw [itU_len]; omega)
        cases hc : (pU rw m (itU rw m K ws j) K).2 with
        | false => exact .inl ⟨j, by omega, q1 hc⟩
        | true => have := q3 hc; exact .inr (by unfold itU; omega)
  rcases key (m + 1) with ⟨i, h1, h2⟩ | h
  · have h3 := itU_stop rw m K ws i h2 (24 - i)
    have h4 := itU_stop rw m K ws i h2 (m - i)
    rw [show i + (24 - i) = 24 from by omega] at h3
    rw [show i + (m - i) = m from by omega] at h4
    rw [h3, h4]
  · have := cT_le (itU rw m K ws (m + 1))
    rw [itU_len] at this
    omega
theorem idxU_take (ws : List Bool) (m : Nat) : idxU (ws.take m) m = idxU ws m := by
  unfold idxU
  congr 1
  refine List.filter_congr fun i hi => ?_
  exact getD_take ws (by simpa using hi)
theorem unR (n : Nat) (rw : Nat → List Int) (K : Nat) (ns : List Int) (hn : n ≤ 24) : unF n rw K ns = idxU (itU rw n (min n K) ((fwU ns).take n) n) n := by
  unfold unF wsU
  rw [← itU_n rw n (min n K) (Nat.min_le_left ..) ((fwU ns).take n) (by rw [List.length_take, fwU_len]; omega) hn, itU_take rw n _ (Nat.min_le_left ..), idxU_take]
theorem dbt_ref (l : List Int) (ws : List Bool) (m : Nat) : dbt l ws m = true ↔ 0 < l.length ∧ l.length ≤ 2 * cntB ws m l := by
  have := cntB_le ws m l
  unfold dbt
  rw [decide_eq_true_eq]
  omega
/-- A node of a pass, set again or not. -/
theorem stU_ref (rw : Nat → List Int) (m : Nat) (p : List Bool × Bool) (i : Nat) (hi : i < p.1.length) : (stU rw m p i).1 = if dbt (rw i) p.1 m = true then p.1.set i true else p.1 := by
  unfold stU
  by_cases h : dbt (rw i) p.1 m = true
  · rw [if_pos h]
    by_cases h2 : p.1.getD i false = false
    · rw [if_pos ⟨h2, h⟩]
    · rw [if_neg (fun h3 => h2 h3.1)]
      have h4 : p.1.getD i false = true := by simpa using h2
      rw [List.getD_eq_getElem?_getD, List.getElem?_eq_getElem hi] at h4
      simp only [Option.getD_some] at h4
      rw [← h4, List.set_getElem_self]
  · rw [if_neg h, if_neg (fun h3 => h h3.2)]
theorem fwT {ns : List Int} {k m : Nat} (h : k < ns.length) : (fwU (ns.take (k + 1))).take m = ((fwU (ns.take k)).take m).set (ns.getD k 0).toNat true := by
  rw [fwU_take h, List.take_set]
end Go.Vx.L55
