/- Lemmas of a small executor for the model, and contracts of functions, used for the law that this claim proves. No condition. -/
import Derived.Test.YtafojofaegmbnaaCF16
set_option linter.unusedSimpArgs false
set_option linter.unusedVariables false
set_option maxRecDepth 100000
namespace Go.Vx.L55
open Go Go.Proofs
/-- One node of a pass. -/
def stU (rw : Nat → List Int) (m : Nat) (p : List Bool × Bool) (i : Nat) : List Bool × Bool :=
  if p.1.getD i false = false ∧ dbt (rw i) p.1 m = true then (p.1.set i true, true) else p
/-- A pass over the first nodes: what is wrong behind it, and whether it has changed. -/
def pU (rw : Nat → List Int) (m : Nat) (ws : List Bool) : Nat → List Bool × Bool
  | 0 => (ws, false)
  | k + 1 => stU rw m (pU rw m ws k) k
def itU (rw : Nat → List Int) (m K : Nat) (ws : List Bool) : Nat → List Bool
  | 0 => ws
  | j + 1 => (pU rw m (itU rw m K ws j) K).1
def cT (ws : List Bool) : Nat := ws.countP id
theorem cT_le (ws : List Bool) : cT ws ≤ ws.length := List.countP_le_length
theorem set_len (ws : List Bool) (i : Nat) : (ws.set i true).length = ws.length := by simp
theorem cT_set : ∀ (ws : List Bool) (i : Nat), i < ws.length → ws.getD i false = false → cT (ws.set i true) = cT ws + 1
  | [], i, h, _ => by simp at h
  | b :: ws, 0, _, h => by
    have : b = false := h
    subst this
    simp [cT]
  | b :: ws, i + 1, h, hb => by
    have ih := cT_set ws i (by simpa using h) hb
    unfold cT at *
    simp only [List.set_cons_succ, List.countP_cons, ih]; omega
theorem pU_len (rw : Nat → List Int) (m : Nat) (ws : List Bool) : ∀ k, (pU rw m ws k).1.length = ws.length
  | 0 => rfl
  | k + 1 => by
    have := pU_len rw m ws k
    unfold pU stU; split
    · simp [this]
    · exact this
theorem itU_len (rw : Nat → List Int) (m K : Nat) (ws : List Bool) : ∀ j, (itU rw m K ws j).length = ws.length
  | 0 => rfl
  | j + 1 => by unfold itU; rw [pU_len, itU_len rw m K ws j]
theorem pU_ch (rw : Nat → List Int) (m : Nat) (ws : List Bool) : ∀ k, k ≤ ws.length → ((pU rw m ws k).2 = false → (pU rw m ws k).1 = ws) ∧ (cT ws ≤ cT (pU rw m ws k).1) ∧ ((pU rw m ws k).2 = true → cT ws < cT (pU rw m ws k).1)
  | 0, _ => ⟨fun _ => rfl, Nat.le_refl _, fun h => by cases h⟩
  | k + 1, hk => by
    obtain ⟨h1, h2, h3⟩ := pU_ch rw m ws k (by omega)
    have hl := pU_len rw m ws k
    unfold pU stU
    split
    · rename_i hc
      have := cT_set (pU rw m ws k).1 k (by omega) hc.1
      simp only [this]
      exact ⟨(fun h => by cases h), by omega, fun _ => by omega⟩
    · exact ⟨h1, h2, h3⟩
/-- The nodes that are wrong behind all passes. -/
def wsU (rw : Nat → List Int) (m K : Nat) (ws : List Bool) : List Bool := itU rw m K ws 24
theorem itU_stop (rw : Nat → List Int) (m K : Nat) (ws : List Bool) (j : Nat) (h : itU rw m K ws (j + 1) = itU rw m K ws j) : ∀ i, itU rw m K ws (j + i) = itU rw m K ws j
  | 0 => rfl
  | i + 1 => by
    have ih := itU_stop rw m K ws j h i
    rw [show j + (i + 1) = (j + i) + 1 from by omega]
    unfold itU at h ⊢
    rw [ih]; exact h
def idxU (ws : List Bool) (n : Nat) : List Int := ((List.range n).filter fun i => ws.getD i false).map fun i => ((i : Nat) : Int)
theorem idxU_succ (ws : List Bool) (n : Nat) : idxU ws (n + 1) = if ws.getD n false = true then idxU ws n ++ [(n : Int)] else idxU ws n := by
  unfold idxU
  rw [List.range_succ, List.filter_append]
  by_cases h : ws.getD n false = true
  · rw [if_pos h, List.filter_cons, if_pos h]; simp
  · rw [if_neg h, List.filter_cons, if_neg h]; simp
theorem idxU_len (ws : List Bool) (n : Nat) : (idxU ws n).length ≤ n := by
  unfold idxU
  rw [List.length_map]
  exact Nat.le_trans (List.length_filter_le ..) (by simp)
/-- The nodes that are faulty. -/
def fwU (ns : List Int) : List Bool := ns.foldl (fun ws i => ws.set i.toNat true) (List.replicate 24 false)
theorem fwU_len (ns : List Int) : (fwU ns).length = 24 := by
  unfold fwU
  have : ∀ (ns : List Int) (ws : List Bool), (ns.foldl (fun ws i => ws.set i.toNat true) ws).length = ws.length := by
    intro ns
    induction ns with
    | nil => intro ws; rfl
    | cons a r ih => intro ws; simp only [List.foldl_cons]; rw [ih, set_len]
  rw [this]; rfl
def unF (n : Nat) (rw : Nat → List Int) (K : Nat) (ns : List Int) : List Int := idxU (wsU rw n (min n K) (fwU ns)) n
end Go.Vx.L55
